/- A region that draws its order, walked once in the order of its text, in a class of worlds that its calls keep. -/
import Derived.Test.YtmldfchddccncaaWWords
import Derived.Test.YtmldfchddccncaaWMore
import Derived.Deep.QuietTactic
import Derived.BigQuiet
import Derived.Laws.Rows
import Derived.Deep.MidRow
set_option linter.unusedVariables false
namespace Go.Proofs.YtmldfchddccncaaW.PrintWords
open Go.RowKit
section
variable {P : Program} {ops : Array Oper} {C : World → Prop} {Q : Act → Prop} {a : Act} {o : Oper} {rest : List Oper}
theorem qc_put (hw : Region.wanted o (yielded ops a.tmps) = true) (v : Value) (hv : ∀ w, C w → o.quietAt P a C w v) (h : wpQuiet P ops C Q rest (a.put o.dst v)) : wpQuiet P ops C Q (o :: rest) a :=
  wpQuiet_step fun K hK => by rw [if_pos hw]; exact ⟨v, hv, hK _ h⟩
theorem qc_skip (hw : Region.wanted o (yielded ops a.tmps) = false) (h : wpQuiet P ops C Q rest (a.put o.dst undef)) : wpQuiet P ops C Q (o :: rest) a :=
  wpQuiet_step fun K hK => by rw [if_neg (by rw [hw]; exact Bool.false_ne_true)]; exact hK _ h
theorem qc_pure (hw : Region.wanted o (yielded ops a.tmps) = true) (v : Value) (hv : ∀ w, (execOp a.eval o).run P w = .ok (.value v) w) (h : wpQuiet P ops C Q rest (a.put o.dst v)) : wpQuiet P ops C Q (o :: rest) a :=
  qc_put hw v (fun w _ => by unfold Oper.quietAt; rw [hv w]; exact ⟨rfl, rfl⟩) h
theorem qc_move (hw : Region.wanted o (yielded ops a.tmps) = true) (x : Operand) (ho : o.op = .move x ∨ o.op = .assign x) (v : Value) (hv : a.eval x = v) (h : wpQuiet P ops C Q rest (a.put o.dst v)) : wpQuiet P ops C Q (o :: rest) a :=
  qc_put hw v (fun w _ => by
    subst hv
    unfold Oper.quietAt execOp
    rcases ho with ho | ho <;> simp only [ho] <;> exact ⟨rfl, rfl⟩) h
theorem qc_load_row (hw : Region.wanted o (yielded ops a.tmps) = true) (ty : TypeId) (x : Operand) (ho : o.op = .load ty x) (g : Nat) (hx : a.eval x = .pointer (some ⟨g, 0, none⟩)) (t : TypeId) (cs : Array Value) (fr : Nat × Nat) (d : TypeDesc) (hg : ∀ w, C w → w.heap[g]? = some (.cells cs t fr))
    (hu : P.underlying ty = some d) (hd : (match d with | .struct _ | .array _ _ => true | _ => false) = true) (hi : (P.info? ty).map (·.size) = some cs.size)
    (h : wpQuiet P ops C Q rest (a.put o.dst (.agg cs))) : wpQuiet P ops C Q (o :: rest) a :=
  qc_put hw _ (fun w hC => by
    unfold Oper.quietAt execOp
    simp only [ho, hx, Instr.loadAt, Instr.sureAddr, Sem.run_bind, Sem.run_pure, Result.andThen_ok, run_loadVar_row w g t ty cs fr d (hg w hC) hu hd hi]
    exact ⟨rfl, rfl⟩) h
theorem qc_call (hw : Region.wanted o (yielded ops a.tmps) = true) (f : FuncId) (xs : Array Operand) (ts : Array TypeId) (ho : o.op = .call { callee := .value (.func f), args := xs, argTypes := ts }) (vs : Array Value) (hvs : xs.toList.map a.eval = vs.toList)
    (hrun : ∀ w, (callFunc f vs).run P w = .ok (.enter f vs) w) (v : Value) (hc : ∀ w, C w → Calls P f vs w fun e w' => e = .returned v ∧ C w')
    (h : wpQuiet P ops C Q rest (a.put o.dst v)) : wpQuiet P ops C Q (o :: rest) a :=
  qc_put hw v (fun w hC => by
    have e : execOp a.eval o = callFunc f vs := by
      have hvs' : xs.map a.eval = vs := Array.ext' (by rw [Array.toList_map]; exact hvs)
      subst hvs'
      obtain ⟨dst, op, ty, pos, after, guard⟩ := o
      simp only at ho
      subst ho
      rw [execOp_call_go]
      congr 1
      simp
    unfold Oper.quietAt
    rw [e, hrun w]
    exact ⟨rfl, hc w hC⟩) h
theorem qc_run (hw : Region.wanted o (yielded ops a.tmps) = true) (v : Value) (hv : ∀ w, C w → (execOp a.eval o).run P w = .ok (.value v) w) (h : wpQuiet P ops C Q rest (a.put o.dst v)) : wpQuiet P ops C Q (o :: rest) a :=
  qc_put hw v (fun w hC => by unfold Oper.quietAt; rw [hv w hC]; exact ⟨rfl, rfl⟩) h
theorem range_blk {w : World} {g : Nat} {t : TypeId} {cs : Array Value} {fr : Nat × Nat} (h : w.heap[g]? = some (.cells cs t fr)) (o : Nat) (l : List Value) (hl : (cs.toList.drop o).take l.length = l) : w.rangeAt g o l := fun j v hv => by
  have hj : j < l.length := (List.getElem?_eq_some_iff.1 hv).1
  rw [cell_of_row w g (o + j) cs t fr h]
  rw [← hl, List.getElem?_take, if_pos (by rw [← hl] at hj; exact Nat.lt_of_lt_of_le hj (List.length_take_le _ _)), List.getElem?_drop] at hv
  rw [← Array.getElem?_toList]
  exact hv
theorem qc_load_mid (hw : Region.wanted o (yielded ops a.tmps) = true) (ty : TypeId) (x : Operand) (ho : o.op = .load ty x) (g i : Nat) (hx : a.eval x = .pointer (some ⟨g, i, none⟩)) (t : TypeId) (cs : Array Value) (fr : Nat × Nat) (d : TypeDesc) (l : List Value) (hg : ∀ w, C w → w.heap[g]? = some (.cells cs t fr))
    (hl : (cs.toList.drop i).take l.length = l) (hu : P.underlying ty = some d) (hd : d.isRow = true) (hi : (P.info? ty).map (·.size) = some l.length)
    (h : wpQuiet P ops C Q rest (a.put o.dst (.agg l.toArray))) : wpQuiet P ops C Q (o :: rest) a :=
  qc_put hw _ (fun w hC => by
    unfold Oper.quietAt execOp
    simp only [ho, hx, Instr.loadAt, Instr.sureAddr, Sem.run_bind, Sem.run_pure, Result.andThen_ok, run_loadVar_mid w g i ty l d (range_blk (hg w hC) i l hl) hu hd hi]
    exact ⟨rfl, rfl⟩) h
theorem qc_load_int (hw : Region.wanted o (yielded ops a.tmps) = true) (ty : TypeId) (x : Operand) (ho : o.op = .load ty x) (g i : Nat) (hx : a.eval x = .pointer (some ⟨g, i, none⟩)) (t : TypeId) (cs : Array Value) (fr : Nat × Nat) (v : Value) (hg : ∀ w, C w → w.heap[g]? = some (.cells cs t fr)) (hv : cs[i]? = some v)
    (hagg : ∀ w, (isAgg ty).run P w = .ok false w)
    (h : wpQuiet P ops C Q rest (a.put o.dst v)) : wpQuiet P ops C Q (o :: rest) a :=
  qc_put hw _ (fun w hC => by
    have hc : w.cell? ⟨g, i, none⟩ = some v := (cell_of_row w g i cs t fr (hg w hC)).trans hv
    unfold Oper.quietAt execOp
    simp only [ho, hx, Instr.loadAt, Instr.sureAddr, Sem.run_bind, Sem.run_pure, Result.andThen_ok]
    have hl : (loadVar ty ⟨g, i, none⟩).run P w = .ok v w := by
      go_simp
    simp only [hl, Result.andThen_ok]
    exact ⟨rfl, rfl⟩) h
theorem wp_region_class (C : World → Prop) {id : Nat} {Q : Exit → Act → World → Prop} {a : Act} {w : World} {l : List Oper} (hm : P.follows .mixedOrders = true) (hB : Region.lexB .any l.toArray = true) (hC : C w.drew)
    (h : wpQuiet P l.toArray C (fun a' => ∀ w', C w' → Q .normal a' w') l a) : (Code.region id l.toArray true).wp P Q a w :=
  wp_region_quiet (C := C) hm hB hC (by simpa using h)
end
end Go.Proofs.YtmldfchddccncaaW.PrintWords
