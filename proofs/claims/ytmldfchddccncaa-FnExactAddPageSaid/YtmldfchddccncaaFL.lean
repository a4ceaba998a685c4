/- A function walked over what its frame is KNOWN to hold (a short list of slots and values), the frame itself being a letter: the cost of a step does not grow with the number of slots. -/
import Derived.Test.YtmldfchddccncaaWL
set_option linter.unusedVariables false
namespace Go.Proofs.YtmldfchddccncaaW.PrintWords
open Go.RowKit
/-- The frame has so many slots, defers nothing, and holds these values. -/
structure Fr (a : Act) (n : Nat) (L : List (Nat × Value)) : Prop where
  size : a.tmps.size = n
  defers : a.defers = []
  holds : ∀ j v, L.lookup j = some v → a.tmps[j]? = some v
def evL (L : List (Nat × Value)) : Operand → Option Value
  | .tmp j => L.lookup j
  | .const c => some c
  | _ => none
theorem Fr.eval {a : Act} {n : Nat} {L : List (Nat × Value)} (h : Fr a n L) {x : Operand} {v : Value} (hx : evL L x = some v) : a.eval x = v := by
  cases x with
  | tmp j =>
    have := h.holds j v hx
    show a.tmps.getD j undef = v
    simp [this]
  | const c => exact Option.some.inj hx
  | _ => cases hx
theorem Fr.put {a : Act} {n : Nat} {L : List (Nat × Value)} (h : Fr a n L) {d : Nat} (hd : d < n) (v : Value) : Fr (a.put (some d) v) n ((d, v) :: L) := by
  refine ⟨?_, ?_, ?_⟩
  · show (a.tmps.setIfInBounds d v).size = n
    simp [h.size]
  · exact h.defers
  · intro j u hj
    show (a.tmps.setIfInBounds d v)[j]? = some u
    rw [List.lookup_cons] at hj
    by_cases e : j = d
    · subst e
      simp at hj
      subst hj
      simp [h.size, hd]
    · rw [show (j == d) = false by simpa using e] at hj
      rw [Array.getElem?_setIfInBounds_ne (Ne.symm e)]
      exact h.holds j u hj
theorem Fr.start {a : Act} {n : Nat} {v : Value} (hs : a.tmps.size = n) (hd : a.defers = []) (h0 : a.tmps[0]? = some v) : Fr a n [(0, v)] := by
  refine ⟨hs, hd, fun j u hj => ?_⟩
  rw [List.lookup_cons] at hj
  cases e : j == 0 with
  | true =>
    rw [e] at hj
    have : j = 0 := by simpa using e
    subst this
    rw [h0]
    exact hj
  | false => rw [e] at hj; cases hj
def keep (ks : List Nat) (L : List (Nat × Value)) : List (Nat × Value) := L.filter fun p => ks.contains p.1
theorem lookup_keep (ks : List Nat) (j : Nat) (v : Value) : ∀ L : List (Nat × Value), (keep ks L).lookup j = some v → L.lookup j = some v
  | [], h => h
  | p :: L, h => by
    obtain ⟨i, u⟩ := p
    unfold keep at h
    rw [List.filter_cons] at h
    by_cases c : ks.contains i = true
    · rw [if_pos c, List.lookup_cons] at h
      rw [List.lookup_cons]
      cases e : j == i with
      | true => rw [e] at h; exact h
      | false => rw [e] at h; exact lookup_keep ks j v L h
    · rw [if_neg c] at h
      have ih := lookup_keep ks j v L h
      rw [List.lookup_cons]
      cases e : j == i with
      | false => exact ih
      | true =>
        exfalso
        have hji : j = i := by simpa using e
        subst hji
        have : ∀ M : List (Nat × Value), (M.filter fun p => ks.contains p.1).lookup j = none := by
          intro M
          induction M with
          | nil => rfl
          | cons q M ih2 =>
            rw [List.filter_cons]
            split
            · rename_i hq
              rw [List.lookup_cons]
              have : (j == q.1) = false := by
                apply Bool.eq_false_iff.2
                intro h3
                have h4 : j = q.1 := by simpa using h3
                rw [← h4] at hq
                exact c hq
              rw [this]
              exact ih2
            · exact ih2
        rw [this L] at h
        cases h
theorem Fr.keep {a : Act} {n : Nat} {L : List (Nat × Value)} (h : Fr a n L) (ks : List Nat) : Fr a n (keep ks L) := ⟨h.size, h.defers, fun j v hj => h.holds j v (lookup_keep ks j v L hj)⟩
def wt (ops : Array Oper) (o : Oper) (L : List (Nat × Value)) : Option Bool :=
  match o.guard with
  | none => some true
  | some (j, b) => ((ops[j]?).bind (·.dst)).bind fun d => (L.lookup d).map fun v => match v with | .bool c => c == b | _ => false
theorem Fr.wanted {a : Act} {n : Nat} {L : List (Nat × Value)} (h : Fr a n L) {ops : Array Oper} {o : Oper} {c : Bool} (hw : wt ops o L = some c) : Region.wanted o (yielded ops a.tmps) = c := by
  unfold wt at hw
  unfold Region.wanted
  split at hw
  · rename_i hg
    rw [hg]
    exact Option.some.inj hw
  · rename_i j b hg
    rw [hg]
    obtain ⟨d, h1, h2⟩ := Option.bind_eq_some_iff.1 hw
    obtain ⟨v, h3, h4⟩ := Option.map_eq_some_iff.1 h2
    have h5 := h.holds d v h3
    show (yielded ops a.tmps j == some b) = c
    unfold yielded
    rw [h1]
    simp only [Option.bind_some, h5]
    subst h4
    cases v <;> rfl
section
variable {P : Program} {ops : Array Oper} {Q : Exit → Act → World → Prop} {w : World} {o : Oper} {rest : List Oper} {n d : Nat} {L : List (Nat × Value)}
/-- Operations, over what is known of the frame. -/
def FL (P : Program) (ops : Array Oper) (Q : Exit → Act → World → Prop) (rest : List Oper) (n : Nat) (L : List (Nat × Value)) (w : World) : Prop := ∀ a, Fr a n L → wpList P ops Q rest a w
/-- Code, over what is known of the frame. -/
def CL (P : Program) (c : Code) (Q : Exit → Act → World → Prop) (n : Nat) (L : List (Nat × Value)) (w : World) : Prop := ∀ a, Fr a n L → c.wp P Q a w
/-- An end, over what is known of the frame. -/
def QL (Q : Exit → Act → World → Prop) (e : Exit) (n : Nat) (L : List (Nat × Value)) (w : World) : Prop := ∀ a, Fr a n L → Q e a w
def KL (K : Act → World → Prop) (n : Nat) (L : List (Nat × Value)) (w : World) : Prop := ∀ a, Fr a n L → K a w
theorem fl_skip (hw : wt ops o L = some false) (hd : o.dst = some d) (hn : d < n) (h : FL P ops Q rest n ((d, undef) :: L) w) : FL P ops Q (o :: rest) n L w := fun a ha => wl_skip (ha.wanted hw) (by rw [hd]; exact h _ (ha.put hn _))
theorem fl_move (x : Operand) (ho : o.op = .move x ∨ o.op = .assign x) (hw : wt ops o L = some true) (hd : o.dst = some d) (hn : d < n) (v : Value) (hv : evL L x = some v) (h : FL P ops Q rest n ((d, v) :: L) w) : FL P ops Q (o :: rest) n L w :=
  fun a ha => wl_move (ha.wanted hw) x ho v (ha.eval hv) (by rw [hd]; exact h _ (ha.put hn _))
theorem fl_pick (c x y : Operand) (ho : o.op = .pick c x y) (hw : wt ops o L = some true) (hd : o.dst = some d) (hn : d < n) (b : Bool) (hc : evL L c = some (.bool b)) (v : Value) (hv : evL L (if b then x else y) = some v) (h : FL P ops Q rest n ((d, v) :: L) w) : FL P ops Q (o :: rest) n L w :=
  fun a ha => wl_pick (ha.wanted hw) c x y ho b (ha.eval hc) v (by have := ha.eval hv; cases b <;> exact this) (by rw [hd]; exact h _ (ha.put hn _))
theorem fl_addr (s : TypeId) (x : Operand) (f : Nat) (ho : o.op = .fieldAddr s x f) (hw : wt ops o L = some true) (hd : o.dst = some d) (hn : d < n) (V : Value) (hx : evL L x = some V) (v : Value) (hr : ∀ w, (Instr.fieldAt s V f).run P w = .ok v w) (h : FL P ops Q rest n ((d, v) :: L) w) : FL P ops Q (o :: rest) n L w :=
  fun a ha => wl_addr (ha.wanted hw) s x f ho V (ha.eval hx) v hr (by rw [hd]; exact h _ (ha.put hn _))
theorem fl_int (ty : TypeId) (x : Operand) (ho : o.op = .load ty x) (hw : wt ops o L = some true) (hd : o.dst = some d) (hn : d < n) (g i : Nat) (hx : evL L x = some (.pointer (some ⟨g, i, none⟩))) (t : TypeId) (cs : Array Value) (fr : Nat × Nat) (hagg : ∀ w, (isAgg ty).run P w = .ok false w) (hg : w.heap[g]? = some (.cells cs t fr)) (v : Value) (hv : cs.toList[i]? = some v)
    (h : FL P ops Q rest n ((d, v) :: L) w) : FL P ops Q (o :: rest) n L w :=
  fun a ha => wl_int (ha.wanted hw) ty x ho g i (ha.eval hx) t cs fr v hg (by rw [← Array.getElem?_toList]; exact hv) hagg (by rw [hd]; exact h _ (ha.put hn _))
theorem fl_row (ty : TypeId) (x : Operand) (ho : o.op = .load ty x) (hw : wt ops o L = some true) (hd' : o.dst = some d) (hn : d < n) (g : Nat) (hx : evL L x = some (.pointer (some ⟨g, 0, none⟩))) (t : TypeId) (cs : Array Value) (fr : Nat × Nat) (D : TypeDesc) (hg : w.heap[g]? = some (.cells cs t fr))
    (hu : P.underlying ty = some D) (hd : (match D with | .struct _ | .array _ _ => true | _ => false) = true) (hi : (P.info? ty).map (·.size) = some cs.size)
    (h : FL P ops Q rest n ((d, .agg cs) :: L) w) : FL P ops Q (o :: rest) n L w :=
  fun a ha => wl_row (ha.wanted hw) ty x ho g (ha.eval hx) t cs fr D hg hu hd hi (by rw [hd']; exact h _ (ha.put hn _))
theorem fl_mid (ty : TypeId) (x : Operand) (ho : o.op = .load ty x) (hw : wt ops o L = some true) (hd' : o.dst = some d) (hn : d < n) (g i : Nat) (hx : evL L x = some (.pointer (some ⟨g, i, none⟩))) (t : TypeId) (cs : Array Value) (fr : Nat × Nat) (D : TypeDesc) (l : List Value) (hg : w.heap[g]? = some (.cells cs t fr))
    (hl : (cs.toList.drop i).take l.length = l) (hu : P.underlying ty = some D) (hd : D.isRow = true) (hi : (P.info? ty).map (·.size) = some l.length)
    (h : FL P ops Q rest n ((d, .agg l.toArray) :: L) w) : FL P ops Q (o :: rest) n L w :=
  fun a ha => wl_mid (ha.wanted hw) ty x ho g i (ha.eval hx) t cs fr D l hg hl hu hd hi (by rw [hd']; exact h _ (ha.put hn _))
theorem fl_bin (b : BinOp) (t1 : TypeId) (x y : Operand) (t2 : TypeId) (ho : o.op = .binOp b t1 x y t2) (hw : wt ops o L = some true) (hd : o.dst = some d) (hn : d < n) (X Y : Value) (hx : evL L x = some X) (hy : evL L y = some Y) (v : Value)
    (hr : ∀ w, (do eqGuard b t1 x y X Y; binOp b t1 X Y : Sem Value).run P w = .ok v w) (h : FL P ops Q rest n ((d, v) :: L) w) : FL P ops Q (o :: rest) n L w :=
  fun a ha => wl_bin (ha.wanted hw) b t1 x y t2 ho X Y (ha.eval hx) (ha.eval hy) v hr (by rw [hd]; exact h _ (ha.put hn _))
theorem fl_not (t1 : TypeId) (x : Operand) (ho : o.op = .unOp .not t1 x) (hw : wt ops o L = some true) (hd : o.dst = some d) (hn : d < n) (b : Bool) (hx : evL L x = some (.bool b)) (h : FL P ops Q rest n ((d, .bool (!b)) :: L) w) : FL P ops Q (o :: rest) n L w :=
  fun a ha => wl_not (ha.wanted hw) t1 x ho b (ha.eval hx) (by rw [hd]; exact h _ (ha.put hn _))
theorem fl_call (f : FuncId) (xs : Array Operand) (ts : Array TypeId) (ho : o.op = .call { callee := .value (.func f), args := xs, argTypes := ts }) (hw : wt ops o L = some true) (hd : o.dst = some d) (hn : d < n) (vs : Array Value) (hvs : xs.toList.map (evL L) = vs.toList.map some)
    (hrun : ∀ w, (callFunc f vs).run P w = .ok (.enter f vs) w) (R : Ending → World → Prop) (hc : Calls P f vs w R)
    (h : ∀ e w', R e w' → ∃ v, e = .returned v ∧ FL P ops Q rest n ((d, v) :: L) w') : FL P ops Q (o :: rest) n L w :=
  fun a ha => wl_call (ha.wanted hw) f xs ts ho vs (by
    have : ∀ (ys : List Operand) (us : List Value), ys.map (evL L) = us.map some → ys.map a.eval = us := by
      intro ys
      induction ys with
      | nil => intro us h; cases us with | nil => rfl | cons _ _ => cases h
      | cons y ys ih =>
        intro us h
        cases us with
        | nil => cases h
        | cons u us =>
          simp only [List.map_cons, List.cons.injEq] at h ⊢
          exact ⟨ha.eval h.1, ih us h.2⟩
    exact this _ _ hvs) hrun R hc fun e w' hR => by
      obtain ⟨v, rfl, h'⟩ := h e w' hR
      exact ⟨v, rfl, by rw [hd]; exact h' _ (ha.put hn _)⟩
theorem fl_ev (hw : wt ops o L = some true) (hd : o.dst = some d) (hn : d < n) (v : Value) (w' : World) (hr : ∀ a, Fr a n L → (execOp a.eval o).run P w = .ok (.value v) w') (h : FL P ops Q rest n ((d, v) :: L) w') : FL P ops Q (o :: rest) n L w :=
  fun a ha => wl_run (ha.wanted hw) v w' (hr a ha) (by rw [hd]; exact h _ (ha.put hn _))
theorem fl_nil (h : QL Q .normal n L w) : FL P ops Q [] n L w := fun a ha => wpList_nil (h a ha)
theorem cl_seq {x y : Code} (h : ∀ K : Act → World → Prop, (∀ n L w, CL P y Q n L w → KL K n L w) → CL P x (Exit.then K Q) n L w) : CL P (Code.seq x y) Q n L w :=
  fun a ha => wp_seq (h (fun a w => y.wp P Q a w) (fun _ _ _ h => h) a ha)
theorem cl_region {id : Nat} {l : List Oper} (h : FL P l.toArray Q l n L w) : CL P (Code.region id l.toArray false) Q n L w := fun a ha => wp_region_lit (h a ha)
theorem cl_block {id : Nat} {c : Code} (h : CL P c (Exit.inBlock id Q) n L w) : CL P (Code.block id c) Q n L w := fun a ha => wp_block (h a ha)
theorem cl_skip (h : QL Q .normal n L w) : CL P Code.skip Q n L w := fun a ha => wp_skip (h a ha)
theorem cl_ret (h : QL Q .ret n L w) : CL P Code.ret Q n L w := fun a ha => wp_ret (h a ha)
theorem cl_exit {id : Nat} (h : QL Q (.exit id) n L w) : CL P (Code.exit id) Q n L w := fun a ha => wp_exit (h a ha)
theorem cl_true {c : Operand} {x y : Code} (hc : evL L c = some (.bool true)) (h : CL P x Q n L w) : CL P (Code.cond c x y) Q n L w := fun a ha => wp_cond_true (ha.eval hc) (h a ha)
theorem cl_false {c : Operand} {x y : Code} (hc : evL L c = some (.bool false)) (h : CL P y Q n L w) : CL P (Code.cond c x y) Q n L w := fun a ha => wp_cond_false (ha.eval hc) (h a ha)
theorem cl_keep (ks : List Nat) {c : Code} (h : CL P c Q n (keep ks L) w) : CL P c Q n L w := fun a ha => h a (ha.keep ks)
theorem ql_then {K : Act → World → Prop} (h : KL K n L w) : QL (Exit.then K Q) .normal n L w := h
theorem ql_then_ret {K : Act → World → Prop} (h : QL Q .ret n L w) : QL (Exit.then K Q) .ret n L w := h
theorem ql_block {id : Nat} (h : QL Q .normal n L w) : QL (Exit.inBlock id Q) .normal n L w := h
theorem ql_block_ret {id : Nat} (h : QL Q .ret n L w) : QL (Exit.inBlock id Q) .ret n L w := h
theorem ql_post {fn : Func} {R : Ending → World → Prop} {p : Nat} (hp : fn.results = #[.tmp p]) {v : Value} (hv : L.lookup p = some v) (h : R (.returned v) w) : QL (bodyPost P fn R) .ret n L w := fun a ha => by
  have h1 := ha.holds p v hv
  have e : a.tmps.getD p undef = v := by simp [h1]
  exact bodyPost_ret (results_tmp hp _ _ _) ha.defers (by rw [e]; exact h)
theorem fl_gate (h : FL P ops Q (o :: rest) n L w) : FL P ops Q (o :: rest) n L w := h
theorem cl_gate {c : Operand} {x y : Code} (h : CL P (Code.cond c x y) Q n L w) : CL P (Code.cond c x y) Q n L w := h
theorem ql_gate {fn : Func} {R : Ending → World → Prop} (h : QL (bodyPost P fn R) .ret n L w) : QL (bodyPost P fn R) .ret n L w := h
theorem fl_box {t : TypeId} {x : Operand} {v : Value} {cs : Array Value} (ho : o.op = .box t x) (hd : o.dst = some d) (hn : d < n) (hw : wt ops o L = some true) (hx : evL L x = some v)
    (hr : ∀ w, (Instr.box t v).run P w = .ok (.pointer (some ⟨w.heap.size, 0, none⟩)) (w.alloc (.cells cs t (0, 0))))
    (h : ∀ g w1, w1.heap[g]? = some (.cells cs t (0, 0)) → Below w.heap.size w w1 → FL P ops Q rest n ((d, .pointer (some ⟨g, 0, none⟩)) :: L) w1) : FL P ops Q (o :: rest) n L w :=
  fl_ev hw hd hn _ _ (fun a ha => by
    unfold execOp
    simp only [ho, ha.eval hx, Sem.run_bind, Sem.run_pure, Result.andThen_ok, hr w]) (h _ _ (blk_new w _) (below_alloc (Below.refl _ _) _))
theorem cl_start {c : Code} {a : Act} (h : CL P c Q n L w) (ha : Fr a n L) : c.wp P Q a w := h a ha
end
end Go.Proofs.YtmldfchddccncaaW.PrintWords
