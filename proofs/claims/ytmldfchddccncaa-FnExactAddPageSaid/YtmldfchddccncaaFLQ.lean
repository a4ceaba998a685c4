/- A region that draws its order, over what is known of the frame, in a class of worlds that its calls keep. -/
import Derived.Test.YtmldfchddccncaaFL
import Derived.Test.YtmldfchddccncaaWMore
set_option linter.unusedVariables false
namespace Go.Proofs.YtmldfchddccncaaW.PrintWords
open Go.RowKit
section
variable {P : Program} {ops : Array Oper} {C : World → Prop} {Q : Act → Prop} {o : Oper} {rest : List Oper} {n d : Nat} {L : List (Nat × Value)}
def QF (P : Program) (ops : Array Oper) (C : World → Prop) (Q : Act → Prop) (rest : List Oper) (n : Nat) (L : List (Nat × Value)) : Prop := ∀ a, Fr a n L → wpQuiet P ops C Q rest a
theorem qf_gate (h : QF P ops C Q (o :: rest) n L) : QF P ops C Q (o :: rest) n L := h
theorem qf_skip (hw : wt ops o L = some false) (hd : o.dst = some d) (hn : d < n) (h : QF P ops C Q rest n ((d, undef) :: L)) : QF P ops C Q (o :: rest) n L := fun a ha => qc_skip (ha.wanted hw) (by rw [hd]; exact h _ (ha.put hn _))
theorem qf_run (hw : wt ops o L = some true) (hd : o.dst = some d) (hn : d < n) (v : Value) (hv : ∀ a, Fr a n L → ∀ w, C w → (execOp a.eval o).run P w = .ok (.value v) w) (h : QF P ops C Q rest n ((d, v) :: L)) : QF P ops C Q (o :: rest) n L :=
  fun a ha => qc_run (ha.wanted hw) v (hv a ha) (by rw [hd]; exact h _ (ha.put hn _))
theorem qf_move (x : Operand) (ho : o.op = .move x ∨ o.op = .assign x) (hw : wt ops o L = some true) (hd : o.dst = some d) (hn : d < n) (v : Value) (hv : evL L x = some v) (h : QF P ops C Q rest n ((d, v) :: L)) : QF P ops C Q (o :: rest) n L :=
  fun a ha => qc_move (ha.wanted hw) x ho v (ha.eval hv) (by rw [hd]; exact h _ (ha.put hn _))
theorem qf_addr (s : TypeId) (x : Operand) (f : Nat) (ho : o.op = .fieldAddr s x f) (hw : wt ops o L = some true) (hd : o.dst = some d) (hn : d < n) (V : Value) (hx : evL L x = some V) (v : Value) (hr : ∀ w, (Instr.fieldAt s V f).run P w = .ok v w) (h : QF P ops C Q rest n ((d, v) :: L)) : QF P ops C Q (o :: rest) n L :=
  qf_run hw hd hn v (fun a ha w _ => by
    unfold execOp
    simp only [ho, ha.eval hx, Sem.run_bind, Sem.run_pure, Result.andThen_ok, hr w]) h
theorem qf_int (ty : TypeId) (x : Operand) (ho : o.op = .load ty x) (hw : wt ops o L = some true) (hd : o.dst = some d) (hn : d < n) (g i : Nat) (hx : evL L x = some (.pointer (some ⟨g, i, none⟩))) (t : TypeId) (cs : Array Value) (fr : Nat × Nat) (hagg : ∀ w, (isAgg ty).run P w = .ok false w) (hg : ∀ w, C w → w.heap[g]? = some (.cells cs t fr)) (v : Value) (hv : cs.toList[i]? = some v)
    (h : QF P ops C Q rest n ((d, v) :: L)) : QF P ops C Q (o :: rest) n L :=
  fun a ha => qc_load_int (ha.wanted hw) ty x ho g i (ha.eval hx) t cs fr v hg (by rw [← Array.getElem?_toList]; exact hv) hagg (by rw [hd]; exact h _ (ha.put hn _))
theorem qf_row (ty : TypeId) (x : Operand) (ho : o.op = .load ty x) (hw : wt ops o L = some true) (hd' : o.dst = some d) (hn : d < n) (g : Nat) (hx : evL L x = some (.pointer (some ⟨g, 0, none⟩))) (t : TypeId) (cs : Array Value) (fr : Nat × Nat) (D : TypeDesc) (hg : ∀ w, C w → w.heap[g]? = some (.cells cs t fr))
    (hu : P.underlying ty = some D) (hd : (match D with | .struct _ | .array _ _ => true | _ => false) = true) (hi : (P.info? ty).map (·.size) = some cs.size)
    (h : QF P ops C Q rest n ((d, .agg cs) :: L)) : QF P ops C Q (o :: rest) n L :=
  fun a ha => qc_load_row (ha.wanted hw) ty x ho g (ha.eval hx) t cs fr D hg hu hd hi (by rw [hd']; exact h _ (ha.put hn _))
theorem qf_mid (ty : TypeId) (x : Operand) (ho : o.op = .load ty x) (hw : wt ops o L = some true) (hd' : o.dst = some d) (hn : d < n) (g i : Nat) (hx : evL L x = some (.pointer (some ⟨g, i, none⟩))) (t : TypeId) (cs : Array Value) (fr : Nat × Nat) (D : TypeDesc) (l : List Value) (hg : ∀ w, C w → w.heap[g]? = some (.cells cs t fr))
    (hl : (cs.toList.drop i).take l.length = l) (hu : P.underlying ty = some D) (hd : D.isRow = true) (hi : (P.info? ty).map (·.size) = some l.length)
    (h : QF P ops C Q rest n ((d, .agg l.toArray) :: L)) : QF P ops C Q (o :: rest) n L :=
  fun a ha => qc_load_mid (ha.wanted hw) ty x ho g i (ha.eval hx) t cs fr D l hg hl hu hd hi (by rw [hd']; exact h _ (ha.put hn _))
theorem qf_bin (b : BinOp) (t1 : TypeId) (x y : Operand) (t2 : TypeId) (ho : o.op = .binOp b t1 x y t2) (hw : wt ops o L = some true) (hd : o.dst = some d) (hn : d < n) (X Y : Value) (hx : evL L x = some X) (hy : evL L y = some Y) (v : Value)
    (hr : ∀ w, (do eqGuard b t1 x y X Y; binOp b t1 X Y : Sem Value).run P w = .ok v w) (h : QF P ops C Q rest n ((d, v) :: L)) : QF P ops C Q (o :: rest) n L :=
  qf_run hw hd hn v (fun a ha w _ => by
    unfold execOp
    simp only [ho, ha.eval hx, ha.eval hy]
    rw [Sem.run_bind, hr w]
    rfl) h
theorem qf_not (t1 : TypeId) (x : Operand) (ho : o.op = .unOp .not t1 x) (hw : wt ops o L = some true) (hd : o.dst = some d) (hn : d < n) (b : Bool) (hx : evL L x = some (.bool b)) (h : QF P ops C Q rest n ((d, .bool (!b)) :: L)) : QF P ops C Q (o :: rest) n L :=
  qf_run hw hd hn _ (fun a ha w _ => by
    unfold execOp
    simp only [ho, ha.eval hx]
    rfl) h
theorem qf_pick (c x y : Operand) (ho : o.op = .pick c x y) (hw : wt ops o L = some true) (hd : o.dst = some d) (hn : d < n) (b : Bool) (hc : evL L c = some (.bool b)) (v : Value) (hv : evL L (if b then x else y) = some v) (h : QF P ops C Q rest n ((d, v) :: L)) : QF P ops C Q (o :: rest) n L :=
  qf_run hw hd hn v (fun a ha w _ => by
    have := ha.eval hv
    subst this
    unfold execOp
    simp only [ho, ha.eval hc]
    cases b <;> rfl) h
theorem qf_call (f : FuncId) (xs : Array Operand) (ts : Array TypeId) (ho : o.op = .call { callee := .value (.func f), args := xs, argTypes := ts }) (hw : wt ops o L = some true) (hd : o.dst = some d) (hn : d < n) (vs : Array Value) (hvs : xs.toList.map (evL L) = vs.toList.map some)
    (hrun : ∀ w, (callFunc f vs).run P w = .ok (.enter f vs) w) (v : Value) (hc : ∀ w, C w → Calls P f vs w fun e w' => e = .returned v ∧ C w')
    (h : QF P ops C Q rest n ((d, v) :: L)) : QF P ops C Q (o :: rest) n L :=
  fun a ha => qc_call (ha.wanted hw) f xs ts ho vs (by
    have : ∀ (ys : List Operand) (us : List Value), ys.map (evL L) = us.map some → ys.map a.eval = us := by
      intro ys
      induction ys with
      | nil => intro us h; cases us with | nil => rfl | cons _ _ => cases h
      | cons y ys ih =>
        intro us h
        cases us with
        | nil => cases h
        | cons u us =>
          simp only [List.map_cons, List.cons.injEq] at h ⊢
          exact ⟨ha.eval h.1, ih us h.2⟩
    exact this _ _ hvs) hrun v hc (by rw [hd]; exact h _ (ha.put hn _))
theorem qf_nil (h : ∀ a, Fr a n L → Q a) : QF P ops C Q [] n L := fun a ha => wpQuiet_nil (h a ha)
theorem cl_drawn (C : World → Prop) {id : Nat} {Q : Exit → Act → World → Prop} {w : World} {l : List Oper} (hm : P.follows .mixedOrders = true) (hB : Region.lexB .any l.toArray = true) (hC : C w.drew)
    (h : QF P l.toArray C (fun a' => ∀ w', C w' → Q .normal a' w') l n L) : CL P (Code.region id l.toArray true) Q n L w := fun a ha => wp_region_class C hm hB hC (h a ha)
end
section
variable {P : Program} {ops : Array Oper} {Q : Exit → Act → World → Prop} {w : World} {o : Oper} {rest : List Oper} {n d : Nat} {L : List (Nat × Value)}
theorem fl_len (x : Operand) (ts : Array TypeId) (ho : o.op = .call { callee := .builtin .len, args := #[x], argTypes := ts }) (hw : wt ops o L = some true) (hd : o.dst = some d) (hn : d < n) (V : Value) (hx : evL L x = some V) (v : Value) (hr : ∀ w, (Builtin.len_ ts o.type #[V]).run P w = .ok v w)
    (h : FL P ops Q rest n ((d, v) :: L) w) : FL P ops Q (o :: rest) n L w :=
  fl_ev hw hd hn _ _ (fun a ha => by
    obtain ⟨dst, op, ty, pos, after, guard⟩ := o
    simp only at ho
    subst ho
    have e := ha.eval hx
    clear ha
    revert e
    generalize a.eval = ρ
    intro e
    go_simp
    try rw [e, hr w]) h
theorem fl_max (x y : Operand) (ts : Array TypeId) (ho : o.op = .call { callee := .builtin .max, args := #[x, y], argTypes := ts }) (hw : wt ops o L = some true) (hd : o.dst = some d) (hn : d < n) (V U : Value) (hx : evL L x = some V) (hy : evL L y = some U) (v : Value) (hr : ∀ w, (Builtin.max_ ts o.type #[V, U]).run P w = .ok v w)
    (h : FL P ops Q rest n ((d, v) :: L) w) : FL P ops Q (o :: rest) n L w :=
  fl_ev hw hd hn v _ (fun a ha  => by
    obtain ⟨dst, op, ty, pos, after, guard⟩ := o
    simp only at ho
    subst ho
    have e := ha.eval hx
    have e2 := ha.eval hy
    clear ha
    revert e e2
    generalize a.eval = ρ
    intro e e2
    go_simp
    try rw [e, e2, hr w]) h
theorem fl_idx (ty : TypeId) (x y : Operand) (ho : o.op = .indexAddr ty x y) (hw : wt ops o L = some true) (hd : o.dst = some d) (hn : d < n) (ad : Addr) (l c : Nat) (i : Int) (hx : evL L x = some (.slice (some ad) l c)) (hy : evL L y = some (.int .i64 i)) (hr : ∀ w, (Instr.indexAt ty (.slice (some ad) l c) (.int .i64 i)).run P w = .ok (.pointer (some (ad.add i.toNat))) w)
    (h : FL P ops Q rest n ((d, .pointer (some (ad.add i.toNat))) :: L) w) : FL P ops Q (o :: rest) n L w :=
  fl_ev hw hd hn _ _ (fun a ha => by
    unfold execOp
    simp only [ho, ha.eval hx, ha.eval hy]
    rw [Sem.run_bind, hr w]
    rfl) h
theorem fl_cell (ty : TypeId) (x : Operand) (ho : o.op = .load ty x) (hw : wt ops o L = some true) (hd : o.dst = some d) (hn : d < n) (p : Addr) (hx : evL L x = some (.pointer (some p))) (hagg : ∀ w, (isAgg ty).run P w = .ok false w) (v : Value) (hc : w.cell? p = some v)
    (h : FL P ops Q rest n ((d, v) :: L) w) : FL P ops Q (o :: rest) n L w :=
  fl_ev hw hd hn _ _ (fun a ha => by
    unfold execOp
    simp only [ho, ha.eval hx, Instr.loadAt, Instr.sureAddr, Sem.run_bind, Sem.run_pure, Result.andThen_ok]
    have hl : (loadVar ty p).run P w = .ok v w := by go_simp
    simp only [hl, Result.andThen_ok]) h
theorem cl_loop {σ : Type} {c : Code} (Lf : σ → List (Nat × Value)) (R : Nat → σ → World → Prop) (n0 : Nat) (s0 : σ) (hL : ∀ a, Fr a n L → Fr a n (Lf s0)) (h0 : R n0 s0 w)
    (round : ∀ k s w, R k s w → ∀ K : Act → World → Prop, (∀ k' s' w', k' < k → R k' s' w' → KL K n (Lf s') w') → CL P c (Exit.then K Q) n (Lf s) w) : CL P (Code.loop c) Q n L w :=
  fun a ha => wp_loop_ghost (fun k a w => ∃ s, R k s w ∧ Fr a n (Lf s)) n0 ⟨s0, h0, hL a ha⟩ (fun k a w ⟨s, hR, ha⟩ => round k s w hR _ (fun k' s' w' hk hR' a' ha' => ⟨k', hk, s', hR', ha'⟩) a ha)
theorem ql_then_exit {K : Act → World → Prop} {id : Nat} (h : QL Q (.exit id) n L w) : QL (Exit.then K Q) (.exit id) n L w := h
theorem ql_hit {id : Nat} (h : QL Q .normal n L w) : QL (Exit.inBlock id Q) (.exit id) n L w := fun a ha => by
  show (if id = id then _ else _)
  rw [if_pos rfl]
  exact h a ha
theorem ql_miss {id id' : Nat} (hne : id' ≠ id) (h : QL Q (.exit id') n L w) : QL (Exit.inBlock id Q) (.exit id') n L w := fun a ha => by
  show (if id' = id then _ else _)
  rw [if_neg hne]
  exact h a ha
end
section
variable {P : Program} {ops : Array Oper} {C : World → Prop} {Q : Act → Prop} {o : Oper} {rest : List Oper} {n d : Nat} {L : List (Nat × Value)}
theorem qf_max (x y : Operand) (ts : Array TypeId) (ho : o.op = .call { callee := .builtin .max, args := #[x, y], argTypes := ts }) (hw : wt ops o L = some true) (hd : o.dst = some d) (hn : d < n) (V U : Value) (hx : evL L x = some V) (hy : evL L y = some U) (v : Value) (hr : ∀ w, (Builtin.max_ ts o.type #[V, U]).run P w = .ok v w)
    (h : QF P ops C Q rest n ((d, v) :: L)) : QF P ops C Q (o :: rest) n L :=
  qf_run hw hd hn v  (fun a ha w _ => by
    obtain ⟨dst, op, ty, pos, after, guard⟩ := o
    simp only at ho
    subst ho
    have e := ha.eval hx
    have e2 := ha.eval hy
    clear ha
    revert e e2
    generalize a.eval = ρ
    intro e e2
    go_simp
    try rw [e, e2, hr w]) h
theorem qf_end {Q : Exit → Act → World → Prop} (h : ∀ w', C w' → QL Q .normal n L w') : QF P ops C (fun a' => ∀ w', C w' → Q .normal a' w') [] n L := qf_nil fun a ha w' hw' => h w' hw' a ha
end
section
variable {P : Program} {ops : Array Oper} {Q : Exit → Act → World → Prop} {W w : World} {o : Oper} {rest : List Oper} {n d : Nat} {L : List (Nat × Value)}
theorem fl_ext0 (x : Operand) (ho : o.op = .extract x 0) (hw : wt ops o L = some true) (hd : o.dst = some d) (hn : d < n) (u v : Value) (hx : evL L x = some (.tuple #[u, v])) (h : FL P ops Q rest n ((d, u) :: L) W) : FL P ops Q (o :: rest) n L W :=
  fl_ev hw hd hn _ _ (fun a ha => by
    unfold execOp
    simp only [ho, ha.eval hx]
    first | rfl | (go_simp; done) | (go_simp; rfl)) h
theorem fl_ext1 (x : Operand) (ho : o.op = .extract x 1) (hw : wt ops o L = some true) (hd : o.dst = some d) (hn : d < n) (u v : Value) (hx : evL L x = some (.tuple #[u, v])) (h : FL P ops Q rest n ((d, v) :: L) W) : FL P ops Q (o :: rest) n L W :=
  fl_ev hw hd hn _ _ (fun a ha => by
    unfold execOp
    simp only [ho, ha.eval hx]
    first | rfl | (go_simp; done) | (go_simp; rfl)) h
theorem kl_pick (ks : List Nat) {K : Act → World → Prop} (h : KL K n (keep ks L) w) : KL K n L w := fun a ha => h a (ha.keep ks)
theorem Fr.also {a : Act} {L2 : List (Nat × Value)} {j : Nat} {v : Value} (ha : Fr a n L) (hb : Fr a n L2) (h : L.lookup j = some v) : Fr a n ((j, v) :: L2) := by
  refine ⟨ha.size, ha.defers, fun i u hi => ?_⟩
  rw [List.lookup_cons] at hi
  cases e : i == j with
  | true =>
    rw [e] at hi
    have : i = j := by simpa using e
    subst this
    simp only [Option.some.injEq] at hi
    subst hi
    exact ha.holds _ _ h
  | false => rw [e] at hi; exact hb.holds _ _ hi
theorem Fr.nothing {a : Act} (ha : Fr a n L) : Fr a n [] := ⟨ha.size, ha.defers, fun i u hi => by cases hi⟩
theorem cl_drawn_gate {id : Nat} {l : Array Oper} (h : CL P (Code.region id l true) Q n L w) : CL P (Code.region id l true) Q n L w := h
theorem kl_gate {K : Act → World → Prop} (h : KL K n L w) : KL K n L w := h
theorem ite_none {α : Type} {p : Prop} {i : Decidable p} {x : Option α} {r : α} (h : (if p then x else none) = some r) : p ∧ x = some r := by
  by_cases hp : p
  · rw [if_pos hp] at h; exact ⟨hp, h⟩
  · rw [if_neg hp] at h; cases h
theorem ite_split_e {α : Type} {a b : Int} {i : Decidable (a = b)} {x y : Option α} {r : α} (h : (if a = b then x else y) = some r) : ((a == b) = true ∧ (a != b) = false ∧ x = some r) ∨ ((a == b) = false ∧ (a != b) = true ∧ y = some r) := by
  by_cases hp : a = b
  · rw [if_pos hp] at h; exact .inl ⟨beq_iff_eq.mpr hp, bne_eq_false_iff_eq.mpr hp, h⟩
  · rw [if_neg hp] at h; exact .inr ⟨beq_eq_false_iff_ne.mpr hp, bne_iff_ne.mpr hp, h⟩
theorem bind_two {α β γ : Type} {x : Option (α × β)} {f : α × β → Option γ} {r : γ} (h : x.bind f = some r) : ∃ a b, x = some (a, b) ∧ f (a, b) = some r := by
  obtain ⟨⟨a, b⟩, h1, h2⟩ := Option.bind_eq_some_iff.mp h
  exact ⟨a, b, h1, h2⟩
theorem bind_one {α : Type} (β : Type) {x : Option β} {f : β → Option α} {r : α} (h : x.bind f = some r) : ∃ a, x = some a ∧ f a = some r := by
  obtain ⟨a, h1, h2⟩ := Option.bind_eq_some_iff.mp h
  exact ⟨a, h1, h2⟩
end
end Go.Proofs.YtmldfchddccncaaW.PrintWords
