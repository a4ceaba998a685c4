/- Memory.with: its last statement, whatever the order. -/
import Derived.Test.YtmldfchddccncaaInsE
import Derived.Test.YtmldfchddccncaaAnyInv2
import Derived.Test.YtmldfchddccncaaFLQ
import Derived.Test.YtmldfchddccncaaPFnExactAddPagex3
set_option linter.unusedVariables false
set_option linter.unusedSimpArgs false
namespace Go.Proofs.Ytmldfchddccncaa.PFnExactAddPage
open Go.RowKit Go.Proofs.YtmldfchddccncaaW.PrintWords Go.Proofs.YtmldfchddccncaaW.PrintLast Go.Proofs.YtmldfchddccncaaW.PrintMore
section
variable {P : Program} {ops : Array Oper} {Q : Exit → Act → World → Prop} {i : Nat} {o : Oper} {a : Act} {w w' : World} {K : Act → World → Prop}
theorem wpOp_val {v : Value} {d : Option Tmp} (x : Op) (ho : ops[i]? = some o) (hg : o.guard = none) (hop : o.op = x) (hd : o.dst = d) (hrun : ∀ q : Oper, q.op = x → (execOp a.eval q).run P w = .ok (.value v) w') (h : K (a.put d v) w') : wpOp P ops Q i K a w :=
  wpOp_plain ho hg (by subst hd; unfold Oper.wp; rw [hrun o hop]; exact h)
theorem wpOp_none {d : Option Tmp} (x : Op) (ho : ops[i]? = some o) (hg : o.guard = none) (hop : o.op = x) (hd : o.dst = d) (hrun : ∀ q : Oper, q.op = x → (execOp a.eval q).run P w = .ok .skip w') (h : K (a.put d undef) w') : wpOp P ops Q i K a w :=
  wpOp_plain ho hg (by subst hd; unfold Oper.wp; rw [hrun o hop]; exact h)
theorem wpOp_go (ho : ops[i]? = some o) (hg : o.guard = none) (f : FuncId) (xs : Array Operand) (ts : Array TypeId) (hop : o.op = .call { callee := .value (.func f), args := xs, argTypes := ts }) (vs : Array Value) (hvs : xs.toList.map a.eval = vs.toList)
    (hrun : ∀ w, (callFunc f vs).run P w = .ok (.enter f vs) w) (R : Ending → World → Prop) (hc : Calls P f vs w R) (h : ∀ e w', R e w' → ∃ v, e = .returned v ∧ K (a.put o.dst v) w') : wpOp P ops Q i K a w :=
  wpOp_plain ho hg (by
    have e : execOp a.eval o = callFunc f vs := by
      have hvs' : xs.map a.eval = vs := Array.ext' (by rw [Array.toList_map]; exact hvs)
      subst hvs'
      obtain ⟨dst, op, ty, pos, after, guard⟩ := o
      simp only at hop
      subst hop
      rw [execOp_call_go]
      congr 1
      simp
    unfold Oper.wp
    rw [e, hrun w]
    exact hc.mono fun e w' hR => by
      obtain ⟨v, rfl, h'⟩ := h e w' hR
      exact h')
end
/-- What the slots of a frame hold. -/
structure Tm (a : Act) (n : Nat) (T : Nat → Value) : Prop where
  size : a.tmps.size = n
  defers : a.defers = []
  holds : ∀ j, j < n → a.tmps[j]? = some (T j)
theorem Tm.ev {a : Act} {n : Nat} {T : Nat → Value} (h : Tm a n T) {j : Nat} (hj : j < n) : a.eval (.tmp j) = T j := by
  have := h.holds j hj
  show a.tmps.getD j undef = T j
  simp [this]
def setT (T : Nat → Value) (d : Nat) (v : Value) : Nat → Value := fun j => if j = d then v else T j
theorem Tm.put {a : Act} {n : Nat} {T : Nat → Value} (h : Tm a n T) {d : Nat} (hd : d < n) (v : Value) : Tm (a.put (some d) v) n (setT T d v) := by
  refine ⟨?_, h.defers, fun j hj => ?_⟩
  · show (a.tmps.setIfInBounds d v).size = n
    simp [h.size]
  · show (a.tmps.setIfInBounds d v)[j]? = some (setT T d v j)
    unfold setT
    by_cases e : j = d
    · subst e
      simp [h.size, hd]
    · rw [if_neg e, Array.getElem?_setIfInBounds_ne (Ne.symm e)]
      exact h.holds j hj
theorem Tm.of_fr {a : Act} {n : Nat} {L : List (Nat × Value)} (h : Fr a n L) : Tm a n (fun j => a.tmps.getD j undef) := ⟨h.size, h.defers, fun j hj => by
  have hj' : j < a.tmps.size := by rw [h.size]; exact hj
  rw [Array.getElem?_eq_getElem hj']
  simp [hj']⟩
def upd (c : Nat → Bool) (i : Nat) : Nat → Bool := fun j => if j = i then true else c j
def pageRow (p : S55) : Array Value := #[.int .i64 p.f0, .int .i64 p.f1, .string p.f2]
structure IW (w : World) (b2 b3 b4 : Nat) (A : Option Addr) (c0 : Nat) (l : List S55) (p : S55) (i : Nat) (c : Nat → Bool) (T : Nat → Value) (W : World) : Prop where
  t2 : T 2 = .pointer (some ⟨b2, 0, none⟩)
  t3 : T 3 = .pointer (some ⟨b3, 0, none⟩)
  t4 : T 4 = .pointer (some ⟨b4, 0, none⟩)
  t5 : T 5 = .int .i64 (i : Int)
  bel : Below w.heap.size w W
  new4 : w.heap.size ≤ b4
  k2 : W.heap[b2]? = some (.cells #[.slice A l.length c0] 28 (0, 0)) ∨ c 1 = true
  k3 : W.heap[b3]? = some (.cells (pageRow p) 55 (0, 0)) ∨ c 4 = true
  k4 : ∃ u, W.heap[b4]? = some (.cells #[u] 28 (0, 0))
  s0 : c 0 = true → T 15 = .pointer (some ⟨b2, 0, none⟩)
  s1 : c 1 = true → T 16 = .slice A l.length c0
  s2 : c 2 = true → c 6 = false → Kd.R k55 55 W w.heap.size (fun _ => True) (T 17) l
  s3 : c 3 = true → T 18 = .int .i64 (i : Int)
  s4 : c 4 = true → T 19 = .agg (pageRow p)
  s5 : c 5 = true → c 6 = false → ∃ h, T 20 = .slice (some ⟨h, 0, none⟩) 1 1 ∧ W.heap[h]? = some (.cells (pageRow p) 55 (0, 0)) ∧ (c 2 = true → ∀ k, (T 17).ownBlock = some k → h ≠ k)
  d6 : c 6 = true → c 1 = true ∧ c 2 = true ∧ c 4 = true ∧ c 5 = true
  s6 : c 6 = true → Kd.R k55 55 W w.heap.size (fun _ => True) (T 21) (l.take i ++ p :: l.drop i)
  s7 : c 7 = true → T 22 = .agg #[T 21]
  s8 : c 8 = true → W.heap[b4]? = some (.cells #[T 21] 28 (0, 0))
  d7 : c 7 = true → c 6 = true
  d8 : c 8 = true → c 7 = true
  d2 : c 2 = true → c 1 = true
  d5 : c 5 = true → c 4 = true
section
variable {w : World} {b2 b3 b4 : Nat} {A : Option Addr} {c0 : Nat} {l : List S55} {p : S55} {i : Nat} {c : Nat → Bool} {T : Nat → Value} {W : World}
/-- A step that makes nothing and sets a slot: all but that slot's own fact stays. -/
theorem IW.pure (h : IW w b2 b3 b4 A c0 l p i c T W) (j d : Nat) (v : Value) (hj : j < 9) (hc : c j = false) (hd : d = 15 + j) (h68 : j = 0 ∨ j = 1 ∨ j = 3 ∨ j = 4 ∨ j = 7)
    (h0 : j = 0 → v = .pointer (some ⟨b2, 0, none⟩)) (h1 : j = 1 → v = .slice A l.length c0) (h3 : j = 3 → v = .int .i64 (i : Int)) (h4 : j = 4 → v = .agg (pageRow p)) (h7 : j = 7 → v = .agg #[T 21]) (hd7 : j = 7 → c 6 = true) :
    IW w b2 b3 b4 A c0 l p i (upd c j) (setT T d v) W := by
  subst hd
  have u : ∀ k, k ≠ j → upd c j k = c k := fun k hk => if_neg hk
  have uj : upd c j j = true := if_pos rfl
  have s : ∀ k, k ≠ 15 + j → setT T (15 + j) v k = T k := fun k hk => if_neg hk
  have sj : setT T (15 + j) v (15 + j) = v := if_pos rfl
  refine ⟨by rw [s _ (by omega)]; exact h.t2, by rw [s _ (by omega)]; exact h.t3, by rw [s _ (by omega)]; exact h.t4, by rw [s _ (by omega)]; exact h.t5, h.bel, h.new4, ?_, ?_, h.k4, ?_, ?_, ?_, ?_, ?_, ?_, ?_, ?_, ?_, ?_, ?_, ?_, ?_, ?_⟩
  · rcases h.k2 with x | x
    · exact .inl x
    · right; by_cases e : 1 = j
      · rw [← e]; exact if_pos rfl
      · rw [u _ e]; exact x
  · rcases h.k3 with x | x
    · exact .inl x
    · right; by_cases e : 4 = j
      · rw [← e]; exact if_pos rfl
      · rw [u _ e]; exact x
  · intro x
    by_cases e : j = 0
    · subst e; rw [sj]; exact h0 rfl
    · rw [s _ (by omega)]; rw [u _ (fun q => e q.symm)] at x; exact h.s0 x
  · intro x
    by_cases e : j = 1
    · subst e; rw [sj]; exact h1 rfl
    · rw [s _ (by omega)]; rw [u _ (fun q => e q.symm)] at x; exact h.s1 x
  · intro x y
    rw [u _ (by omega)] at x y
    rw [s _ (by omega)]; exact h.s2 x y
  · intro x
    by_cases e : j = 3
    · subst e; rw [sj]; exact h3 rfl
    · rw [s _ (by omega)]; rw [u _ (fun q => e q.symm)] at x; exact h.s3 x
  · intro x
    by_cases e : j = 4
    · subst e; rw [sj]; exact h4 rfl
    · rw [s _ (by omega)]; rw [u _ (fun q => e q.symm)] at x; exact h.s4 x
  · intro x y
    rw [u _ (by omega)] at x y
    rw [s 20 (by omega), u 2 (by omega), s 17 (by omega)]; exact h.s5 x y
  · intro x
    rw [u _ (by omega)] at x
    obtain ⟨q1, q2, q4, q5⟩ := h.d6 x
    refine ⟨?_, by rw [u _ (by omega)]; exact q2, ?_, by rw [u _ (by omega)]; exact q5⟩
    · by_cases e : 1 = j
      · rw [← e]; exact if_pos rfl
      · rw [u _ e]; exact q1
    · by_cases e : 4 = j
      · rw [← e]; exact if_pos rfl
      · rw [u _ e]; exact q4
  · intro x
    rw [u _ (by omega)] at x
    rw [s _ (by omega)]; exact h.s6 x
  · intro x
    by_cases e : j = 7
    · subst e; rw [sj, s _ (by omega)]; exact h7 rfl
    · rw [s 22 (by omega), s 21 (by omega)]; rw [u _ (fun q => e q.symm)] at x; exact h.s7 x
  · intro x
    rw [u _ (by omega)] at x
    rw [s _ (by omega)]; exact h.s8 x
  · intro x
    rw [u 6 (by omega)]
    by_cases e : j = 7
    · exact hd7 e
    · rw [u _ (fun q => e q.symm)] at x; exact h.d7 x
  · intro x
    rw [u _ (by omega)] at x
    by_cases e : j = 7
    · subst e; exact if_pos rfl
    · rw [u _ (fun q => e q.symm)]; exact h.d8 x
  · intro x
    rw [u _ (by omega)] at x
    by_cases e : 1 = j
    · rw [← e]; exact if_pos rfl
    · rw [u _ e]; exact h.d2 x
  · intro x
    rw [u _ (by omega)] at x
    by_cases e : 4 = j
    · rw [← e]; exact if_pos rfl
    · rw [u _ e]; exact h.d5 x
/-- The world grows by what is called or made: all stays. -/
theorem IW.world {W' : World} (h : IW w b2 b3 b4 A c0 l p i c T W) (hb : Below W.heap.size W W') : IW w b2 b3 b4 A c0 l p i c T W' := by
  have bk : ∀ {g : Nat} {o : Obj}, W.heap[g]? = some o → W'.heap[g]? = some o := fun hg => blk_below hg hb
  refine ⟨h.t2, h.t3, h.t4, h.t5, below_step h.bel hb, h.new4, h.k2.imp bk id, h.k3.imp bk id, ?_, h.s0, h.s1, fun x y => Kd.R_below (h.s2 x y) hb, h.s3, h.s4, ?_, h.d6, fun x => Kd.R_below (h.s6 x) hb, h.s7, fun x => bk (h.s8 x), h.d7, h.d8, h.d2, h.d5⟩
  · obtain ⟨q, hq⟩ := h.k4
    exact ⟨q, bk hq⟩
  · intro x y
    obtain ⟨g, h1, h2, h3⟩ := h.s5 x y
    exact ⟨g, h1, bk h2, h3⟩
/-- The copy has been made. -/
theorem IW.clone {W' : World} {v : Value} (h : IW w b2 b3 b4 A c0 l p i c T W) (hc : c 2 = false) (q1 : c 1 = true) (hR : Kd.R k55 55 W' W.heap.size (fun _ => True) v l) (hb : Below W.heap.size W W') : IW w b2 b3 b4 A c0 l p i (upd c 2) (setT T 17 v) W' := by
  have h' := h.world hb
  have u : ∀ k, k ≠ 2 → upd c 2 k = c k := fun k hk => if_neg hk
  have s : ∀ k, k ≠ 17 → setT T 17 v k = T k := fun k hk => if_neg hk
  refine ⟨by rw [s _ (by omega)]; exact h.t2, by rw [s _ (by omega)]; exact h.t3, by rw [s _ (by omega)]; exact h.t4, by rw [s _ (by omega)]; exact h.t5, h'.bel, h.new4, by rw [u _ (by omega)]; exact h'.k2, by rw [u _ (by omega)]; exact h'.k3, h'.k4, ?_, ?_, ?_, ?_, ?_, ?_, ?_, ?_, ?_, ?_, ?_, ?_, ?_, ?_⟩
  · intro x; rw [u _ (by omega)] at x; rw [s _ (by omega)]; exact h.s0 x
  · intro x; rw [u _ (by omega)] at x; rw [s _ (by omega)]; exact h.s1 x
  · intro x y; exact Kd.R_lower hR h.bel.size
  · intro x; rw [u _ (by omega)] at x; rw [s _ (by omega)]; exact h.s3 x
  · intro x; rw [u _ (by omega)] at x; rw [s _ (by omega)]; exact h.s4 x
  · intro x y
    rw [u _ (by omega)] at x y
    obtain ⟨g, h1, h2, _⟩ := h.s5 x y
    refine ⟨g, by rw [s _ (by omega)]; exact h1, blk_below h2 hb, fun _ k hk => ?_⟩
    have hk' : v.ownBlock = some k := hk
    have hge : W.heap.size ≤ k := by
      obtain ⟨_, inner, ⟨_, ho⟩, _⟩ := hR
      rcases ho with ⟨rfl, _⟩ | ⟨g2, cap, cur, rfl, h5, _⟩
      · cases hk'
      · have : g2 = k := by simpa [Value.ownBlock] using hk'
        omega
    have := (Array.getElem?_eq_some_iff.1 h2).1
    omega
  · intro x; rw [u _ (by omega)] at x; have := (h.d6 x).2.1; rw [hc] at this; cases this
  · intro x; rw [u _ (by omega)] at x; have := (h.d6 x).2.1; rw [hc] at this; cases this
  · intro x; rw [u _ (by omega)] at x; rw [s _ (by omega), s _ (by omega)]; exact h.s7 x
  · intro x; rw [u _ (by omega)] at x; rw [s _ (by omega)]; exact h'.s8 x
  · intro x; rw [u _ (by omega)] at x ⊢; exact h.d7 x
  · intro x; rw [u _ (by omega)] at x ⊢; exact h.d8 x
  · intro x; rw [u _ (by omega)]; exact q1
  · intro x; rw [u _ (by omega)] at x ⊢; exact h.d5 x
/-- The new page lies in a row of its own. -/
theorem IW.made (h : IW w b2 b3 b4 A c0 l p i c T W) (hc : c 5 = false) (q4 : c 4 = true) : IW w b2 b3 b4 A c0 l p i (upd c 5) (setT T 20 (.slice (some ⟨W.heap.size, 0, none⟩) 1 1)) (W.alloc (.cells (pageRow p) 55)) := by
  have hb : Below W.heap.size W (W.alloc (.cells (pageRow p) 55)) := below_alloc (Below.refl _ _) _
  have h' := h.world hb
  have u : ∀ k, k ≠ 5 → upd c 5 k = c k := fun k hk => if_neg hk
  have s : ∀ k, k ≠ 20 → setT T 20 (.slice (some ⟨W.heap.size, 0, none⟩) 1 1) k = T k := fun k hk => if_neg hk
  have n6 : c 6 = false := by
    cases e : c 6 with
    | false => rfl
    | true => have := (h.d6 e).2.2.2; rw [hc] at this; cases this
  refine ⟨by rw [s _ (by omega)]; exact h.t2, by rw [s _ (by omega)]; exact h.t3, by rw [s _ (by omega)]; exact h.t4, by rw [s _ (by omega)]; exact h.t5, h'.bel, h.new4, by rw [u _ (by omega)]; exact h'.k2, by rw [u _ (by omega)]; exact h'.k3, h'.k4, ?_, ?_, ?_, ?_, ?_, ?_, ?_, ?_, ?_, ?_, ?_, ?_, ?_, ?_⟩
  · intro x; rw [u _ (by omega)] at x; rw [s _ (by omega)]; exact h.s0 x
  · intro x; rw [u _ (by omega)] at x; rw [s _ (by omega)]; exact h.s1 x
  · intro x y; rw [u _ (by omega)] at x y; rw [s _ (by omega)]; exact h'.s2 x y
  · intro x; rw [u _ (by omega)] at x; rw [s _ (by omega)]; exact h.s3 x
  · intro x; rw [u _ (by omega)] at x; rw [s _ (by omega)]; exact h.s4 x
  · intro x y
    refine ⟨W.heap.size, if_pos rfl, blk_new W _, fun q k hk => ?_⟩
    rw [u _ (by omega)] at q
    rw [s _ (by omega)] at hk
    obtain ⟨_, inner, ho, _⟩ := h.s2 q n6
    obtain ⟨cells, hcs⟩ := own_typed ho k hk
    have := (Array.getElem?_eq_some_iff.1 hcs).1
    omega
  · intro x; rw [u _ (by omega)] at x; rw [n6] at x; cases x
  · intro x; rw [u _ (by omega)] at x; rw [n6] at x; cases x
  · intro x; rw [u _ (by omega)] at x; rw [s _ (by omega), s _ (by omega)]; exact h.s7 x
  · intro x; rw [u _ (by omega)] at x; rw [s _ (by omega)]; exact h'.s8 x
  · intro x; rw [u _ (by omega)] at x ⊢; exact h.d7 x
  · intro x; rw [u _ (by omega)] at x ⊢; exact h.d8 x
  · intro x; rw [u _ (by omega)] at x ⊢; exact h.d2 x
  · intro x; rw [u _ (by omega)]; exact q4
/-- The page has been put in. -/
theorem IW.put {W' : World} {v1 : Value} (h : IW w b2 b3 b4 A c0 l p i c T W) (hc : c 6 = false) (q1 : c 1 = true) (q2 : c 2 = true) (q4 : c 4 = true) (q5 : c 5 = true) (hR : Kd.R k55 55 W' w.heap.size (fun _ => True) v1 (l.take i ++ p :: l.drop i)) (hb : Below w.heap.size w W') (hg : W.grownBy W' (T 17).ownBlock) : IW w b2 b3 b4 A c0 l p i (upd c 6) (setT T 21 v1) W' := by
  have u : ∀ k, k ≠ 6 → upd c 6 k = c k := fun k hk => if_neg hk
  have u6 : upd c 6 6 = true := if_pos rfl
  have s : ∀ k, k ≠ 21 → setT T 21 v1 k = T k := fun k hk => if_neg hk
  have n7 : c 7 = false := by
    cases e : c 7 with
    | false => rfl
    | true => have := h.d7 e; rw [hc] at this; cases this
  have n8 : c 8 = false := by
    cases e : c 8 with
    | false => rfl
    | true => have := h.d8 e; rw [n7] at this; cases this
  refine ⟨by rw [s _ (by omega)]; exact h.t2, by rw [s _ (by omega)]; exact h.t3, by rw [s _ (by omega)]; exact h.t4, by rw [s _ (by omega)]; exact h.t5, hb, h.new4, by rw [u _ (by omega)]; exact .inr q1, by rw [u _ (by omega)]; exact .inr q4, ?_, ?_, ?_, ?_, ?_, ?_, ?_, ?_, ?_, ?_, ?_, ?_, ?_, ?_, ?_⟩
  · obtain ⟨x, hx⟩ := h.k4
    refine ⟨x, blk_grown hx hg (fun e => ?_)⟩
    obtain ⟨_, inner, ho, _⟩ := h.s2 q2 hc
    obtain ⟨cells, hcs⟩ := own_typed ho b4 e.symm
    rw [hx] at hcs
    simp at hcs
  · intro x; rw [u _ (by omega)] at x; rw [s _ (by omega)]; exact h.s0 x
  · intro x; rw [u _ (by omega)] at x; rw [s _ (by omega)]; exact h.s1 x
  · intro x y; rw [u6] at y; cases y
  · intro x; rw [u _ (by omega)] at x; rw [s _ (by omega)]; exact h.s3 x
  · intro x; rw [u _ (by omega)] at x; rw [s _ (by omega)]; exact h.s4 x
  · intro x y; rw [u6] at y; cases y
  · intro x
    rw [u _ (by omega), u _ (by omega), u _ (by omega), u _ (by omega)]
    exact ⟨q1, q2, q4, q5⟩
  · intro x; rw [show setT T 21 v1 21 = v1 from if_pos rfl]; exact hR
  · intro x; rw [u _ (by omega), n7] at x; cases x
  · intro x; rw [u _ (by omega), n8] at x; cases x
  · intro x; exact u6
  · intro x; rw [u _ (by omega), n8] at x; cases x
  · intro x; rw [u _ (by omega)] at x ⊢; exact h.d2 x
  · intro x; rw [u _ (by omega)] at x ⊢; exact h.d5 x
/-- What is returned has been stored. -/
theorem IW.stored (h : IW w b2 b3 b4 A c0 l p i c T W) (hc : c 8 = false) (q6 : c 6 = true) (q7 : c 7 = true) : IW w b2 b3 b4 A c0 l p i (upd c 8) T (W.setRow b4 #[T 21]) := by
  obtain ⟨x0, hx0⟩ := h.k4
  have hg : W.grownBy (W.setRow b4 #[T 21]) (some b4) := ⟨rfl, rfl, rfl, by rw [setRow_size]; exact Nat.le_refl _, fun k hk hn => setRow_other W b4 k _ (fun e => hn (by rw [e]))⟩
  have u : ∀ k, k ≠ 8 → upd c 8 k = c k := fun k hk => if_neg hk
  have hn := setRow_heap W b4 _ #[T 21] 28 (0, 0) hx0
  refine ⟨h.t2, h.t3, h.t4, h.t5, below_setRow h.bel h.new4 _, h.new4, by rw [u _ (by omega)]; exact .inr (h.d6 q6).1, by rw [u _ (by omega)]; exact .inr (h.d6 q6).2.2.1, ⟨_, hn⟩, ?_, ?_, ?_, ?_, ?_, ?_, ?_, ?_, ?_, ?_, ?_, ?_, ?_, ?_⟩
  · intro x; rw [u _ (by omega)] at x; exact h.s0 x
  · intro x; rw [u _ (by omega)] at x; exact h.s1 x
  · intro x y; rw [u _ (by omega), q6] at y; cases y
  · intro x; rw [u _ (by omega)] at x; exact h.s3 x
  · intro x; rw [u _ (by omega)] at x; exact h.s4 x
  · intro x y; rw [u _ (by omega), q6] at y; cases y
  · intro x; rw [u _ (by omega), u _ (by omega), u _ (by omega), u _ (by omega)]; exact h.d6 q6
  · intro x; exact Kd.R_over' (v := .slice (some ⟨b4, 0, none⟩) 0 0) (e' := 28) (h.s6 q6) (fun k hk => by cases hk; exact ⟨_, hx0⟩) (by decide) hg
  · intro x; exact h.s7 q7
  · intro x; exact hn
  · intro x; rw [u _ (by omega)]; exact q6
  · intro x; rw [u _ (by omega)]; exact q7
  · intro x; rw [u _ (by omega)] at x ⊢; exact h.d2 x
  · intro x; rw [u _ (by omega)] at x ⊢; exact h.d5 x
end
end Go.Proofs.Ytmldfchddccncaa.PFnExactAddPage
