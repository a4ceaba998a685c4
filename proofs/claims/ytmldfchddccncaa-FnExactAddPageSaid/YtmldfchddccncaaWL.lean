/- A plain region walked operation by operation, by laws alone: no simplifier looks at the frame but to put a value in it. -/
import Derived.Test.YtmldfchddccncaaQC
import Derived.Test.YtmldfchddccncaaSqu
set_option linter.unusedVariables false
namespace Go.Proofs.YtmldfchddccncaaW.PrintWords
open Go.RowKit
section
variable {P : Program} {ops : Array Oper} {Q : Exit → Act → World → Prop} {a : Act} {w : World} {o : Oper} {rest : List Oper}
theorem wl_skip (hw : Region.wanted o (yielded ops a.tmps) = false) (h : wpList P ops Q rest (a.put o.dst undef) w) : wpList P ops Q (o :: rest) a w := by
  unfold wpList
  rw [if_neg (by rw [hw]; exact Bool.false_ne_true)]
  exact h
theorem wl_run (hw : Region.wanted o (yielded ops a.tmps) = true) (v : Value) (w' : World) (hr : (execOp a.eval o).run P w = .ok (.value v) w') (h : wpList P ops Q rest (a.put o.dst v) w') : wpList P ops Q (o :: rest) a w :=
  wpList_step fun K hK => by
    rw [if_pos hw]
    unfold Oper.wp
    rw [hr]
    exact hK _ _ h
theorem wl_pure (hw : Region.wanted o (yielded ops a.tmps) = true) (v : Value) (hr : (execOp a.eval o).run P w = .ok (.value v) w) (h : wpList P ops Q rest (a.put o.dst v) w) : wpList P ops Q (o :: rest) a w := wl_run hw v w hr h
theorem wl_move (hw : Region.wanted o (yielded ops a.tmps) = true) (x : Operand) (ho : o.op = .move x ∨ o.op = .assign x) (v : Value) (hv : a.eval x = v) (h : wpList P ops Q rest (a.put o.dst v) w) : wpList P ops Q (o :: rest) a w :=
  wl_run hw v w (by
    subst hv
    unfold execOp
    rcases ho with ho | ho <;> simp only [ho] <;> rfl) h
theorem wl_row (hw : Region.wanted o (yielded ops a.tmps) = true) (ty : TypeId) (x : Operand) (ho : o.op = .load ty x) (g : Nat) (hx : a.eval x = .pointer (some ⟨g, 0, none⟩)) (t : TypeId) (cs : Array Value) (fr : Nat × Nat) (d : TypeDesc) (hg : w.heap[g]? = some (.cells cs t fr))
    (hu : P.underlying ty = some d) (hd : (match d with | .struct _ | .array _ _ => true | _ => false) = true) (hi : (P.info? ty).map (·.size) = some cs.size)
    (h : wpList P ops Q rest (a.put o.dst (.agg cs)) w) : wpList P ops Q (o :: rest) a w :=
  wl_run hw _ w (by
    unfold execOp
    simp only [ho, hx, Instr.loadAt, Instr.sureAddr, Sem.run_bind, Sem.run_pure, Result.andThen_ok, run_loadVar_row w g t ty cs fr d hg hu hd hi]) h
theorem wl_mid (hw : Region.wanted o (yielded ops a.tmps) = true) (ty : TypeId) (x : Operand) (ho : o.op = .load ty x) (g i : Nat) (hx : a.eval x = .pointer (some ⟨g, i, none⟩)) (t : TypeId) (cs : Array Value) (fr : Nat × Nat) (d : TypeDesc) (l : List Value) (hg : w.heap[g]? = some (.cells cs t fr))
    (hl : (cs.toList.drop i).take l.length = l) (hu : P.underlying ty = some d) (hd : d.isRow = true) (hi : (P.info? ty).map (·.size) = some l.length)
    (h : wpList P ops Q rest (a.put o.dst (.agg l.toArray)) w) : wpList P ops Q (o :: rest) a w :=
  wl_run hw _ w (by
    unfold execOp
    simp only [ho, hx, Instr.loadAt, Instr.sureAddr, Sem.run_bind, Sem.run_pure, Result.andThen_ok, run_loadVar_mid w g i ty l d (range_blk hg i l hl) hu hd hi]) h
theorem wl_int (hw : Region.wanted o (yielded ops a.tmps) = true) (ty : TypeId) (x : Operand) (ho : o.op = .load ty x) (g i : Nat) (hx : a.eval x = .pointer (some ⟨g, i, none⟩)) (t : TypeId) (cs : Array Value) (fr : Nat × Nat) (v : Value) (hg : w.heap[g]? = some (.cells cs t fr)) (hv : cs[i]? = some v)
    (hagg : ∀ w, (isAgg ty).run P w = .ok false w)
    (h : wpList P ops Q rest (a.put o.dst v) w) : wpList P ops Q (o :: rest) a w :=
  wl_run hw _ w (by
    have hc : w.cell? ⟨g, i, none⟩ = some v := (cell_of_row w g i cs t fr hg).trans hv
    unfold execOp
    simp only [ho, hx, Instr.loadAt, Instr.sureAddr, Sem.run_bind, Sem.run_pure, Result.andThen_ok]
    have hl : (loadVar ty ⟨g, i, none⟩).run P w = .ok v w := by go_simp
    simp only [hl, Result.andThen_ok]) h
theorem wl_call (hw : Region.wanted o (yielded ops a.tmps) = true) (f : FuncId) (xs : Array Operand) (ts : Array TypeId) (ho : o.op = .call { callee := .value (.func f), args := xs, argTypes := ts }) (vs : Array Value) (hvs : xs.toList.map a.eval = vs.toList)
    (hrun : ∀ w, (callFunc f vs).run P w = .ok (.enter f vs) w) (R : Ending → World → Prop) (hc : Calls P f vs w R)
    (h : ∀ e w', R e w' → ∃ v, e = .returned v ∧ wpList P ops Q rest (a.put o.dst v) w') : wpList P ops Q (o :: rest) a w :=
  wpList_step fun K hK => by
    have e : execOp a.eval o = callFunc f vs := by
      have hvs' : xs.map a.eval = vs := Array.ext' (by rw [Array.toList_map]; exact hvs)
      subst hvs'
      obtain ⟨dst, op, ty, pos, after, guard⟩ := o
      simp only at ho
      subst ho
      rw [execOp_call_go]
      congr 1
      simp
    rw [if_pos hw]
    unfold Oper.wp
    rw [e, hrun w]
    exact hc.mono fun e w' hR => by
      obtain ⟨v, rfl, h'⟩ := h e w' hR
      exact hK _ _ h'
theorem wl_addr (hw : Region.wanted o (yielded ops a.tmps) = true) (s : TypeId) (x : Operand) (f : Nat) (ho : o.op = .fieldAddr s x f) (V : Value) (hx : a.eval x = V) (v : Value) (hr : ∀ w, (Instr.fieldAt s V f).run P w = .ok v w) (h : wpList P ops Q rest (a.put o.dst v) w) : wpList P ops Q (o :: rest) a w :=
  wl_run hw _ w (by
    unfold execOp
    simp only [ho, hx, Sem.run_bind, Sem.run_pure, Result.andThen_ok, hr w]) h
theorem wl_pick (hw : Region.wanted o (yielded ops a.tmps) = true) (c x y : Operand) (ho : o.op = .pick c x y) (b : Bool) (hc : a.eval c = .bool b) (v : Value) (hv : (if b then a.eval x else a.eval y) = v) (h : wpList P ops Q rest (a.put o.dst v) w) : wpList P ops Q (o :: rest) a w :=
  wl_run hw v w (by
    subst hv
    unfold execOp
    simp only [ho, hc]
    cases b <;> rfl) h
theorem run_eql (m n : Int) (w : World) : (binOp .eql 3 (.int .i64 m) (.int .i64 n)).run P w = .ok (.bool (m == n)) w := by go_simp
theorem wl_bin (hw : Region.wanted o (yielded ops a.tmps) = true) (b : BinOp) (t1 : TypeId) (x y : Operand) (t2 : TypeId) (ho : o.op = .binOp b t1 x y t2) (X Y : Value) (hx : a.eval x = X) (hy : a.eval y = Y) (v : Value)
    (hr : ∀ w, (do eqGuard b t1 x y X Y; binOp b t1 X Y : Sem Value).run P w = .ok v w) (h : wpList P ops Q rest (a.put o.dst v) w) : wpList P ops Q (o :: rest) a w :=
  wl_run hw _ w (by
    unfold execOp
    simp only [ho, hx, hy]
    rw [Sem.run_bind, hr w]
    rfl) h
theorem wl_not (hw : Region.wanted o (yielded ops a.tmps) = true) (t1 : TypeId) (x : Operand) (ho : o.op = .unOp .not t1 x) (b : Bool) (hx : a.eval x = .bool b) (h : wpList P ops Q rest (a.put o.dst (.bool (!b))) w) : wpList P ops Q (o :: rest) a w :=
  wl_run hw _ w (by
    unfold execOp
    simp only [ho, hx]
    rfl) h
theorem wl_gate (h : wpList P ops Q (o :: rest) a w) : wpList P ops Q (o :: rest) a w := h
theorem cond_gate {c : Operand} {x y : Code} (h : (Code.cond c x y).wp P Q a w) : (Code.cond c x y).wp P Q a w := h
theorem then_normal {next : Act → World → Prop} (h : next a w) : Exit.then next Q .normal a w := h
theorem then_ret {next : Act → World → Prop} (h : Q .ret a w) : Exit.then next Q .ret a w := h
theorem block_normal {id : Nat} (h : Q .normal a w) : Exit.inBlock id Q .normal a w := h
theorem block_ret {id : Nat} (h : Q .ret a w) : Exit.inBlock id Q .ret a w := h
theorem post_ret {fn : Func} {R : Ending → World → Prop} (h : bodyPost P fn R .ret a w) : bodyPost P fn R .ret a w := h
theorem ite_split {b : Bool} {x y : Option Bool} {r : Bool} (h : (if b = true then x else y) = some r) : (b = true ∧ x = some r) ∨ (b = false ∧ y = some r) := by
  cases b with
  | true => exact .inl ⟨rfl, h⟩
  | false => exact .inr ⟨rfl, h⟩
end
end Go.Proofs.YtmldfchddccncaaW.PrintWords
