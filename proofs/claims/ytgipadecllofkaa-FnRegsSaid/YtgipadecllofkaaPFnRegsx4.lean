-- Written for this claim by the session's own program, out of the translation. Not trusted: Lean checks it.
import Derived.Test.YtgipadecllofkaaPFnRegsx0
import Derived.Test.YtgipadecllofkaaPFnRegsx1
import Derived.Test.YtgipadecllofkaaPFnRegsx3
namespace Go.Proofs.Ytgipadecllofkaa.PFnRegs
open Go.RowKit Go.Proofs.YtgipadecllofkaaW.PrintWords Go.Proofs.YtgipadecllofkaaW.PrintLast Go.Proofs.YtgipadecllofkaaW.PrintMore
attribute [local go_sem] max2_int min2_int max_two min_two max_three min_three max_four min_four   -- for this text's walks alone
set_option linter.unusedVariables false
set_option linter.unusedSimpArgs false

/-! ### laws_FnRegs: function 8 -/
theorem alloc_row (w1 : World) (T : TypeId) (z y : List Int) :
    ((w1.alloc (.cells (cellsI z) T)).setRow w1.heap.size (cellsI y)).heap[w1.heap.size]? = some (.cells (cellsI y) T (0, 0)) ∧
    (∀ (g : Nat) (o : Obj), w1.heap[g]? = some o → ((w1.alloc (.cells (cellsI z) T)).setRow w1.heap.size (cellsI y)).heap[g]? = some o) ∧
    (∀ (B : Nat) (w : World), B ≤ w1.heap.size → Below B w w1 → Below B w ((w1.alloc (.cells (cellsI z) T)).setRow w1.heap.size (cellsI y))) := by
  refine ⟨setRow_heap _ _ _ (cellsI y) _ _ (blk_new w1 (.cells (cellsI z) T)), fun g o h => ?_, fun B w hB hb => ?_⟩
  · exact (setRow_other _ w1.heap.size _ (cellsI y) (Nat.ne_of_lt (blk_lt h))).trans (blk_below h (below_alloc (Below.refl _ _) (.cells (cellsI z) T)))
  · exact belowRow (hb.trans ((below_alloc (Below.refl w1.heap.size w1) (.cells (cellsI z) T)).mono hB)) hB (cellsI y)
theorem wl_run {P : Program} {ops : Array Oper} {Q : Exit → Act → World → Prop} {a : Act} {w : World} {rest : List Oper} {o : Oper} (hw : Region.wanted o (yielded ops a.tmps) = true) (v : Value) (hrun : (execOp a.eval o).run P w = .ok (.value v) w) (h : wpList P ops Q rest (a.put o.dst v) w) : wpList P ops Q (o :: rest) a w :=
  BigFrame.wpList_want hw fun K hK => by
    unfold Oper.wp
    rw [hrun, Oper.upon_value]
    exact hK _ _ h
theorem wl_load_row {P : Program} {ops : Array Oper} {Q : Exit → Act → World → Prop} {a : Act} {w : World} {rest : List Oper} {o : Oper} (hw : Region.wanted o (yielded ops a.tmps) = true) (ty : TypeId) (x : Operand) (ho : o.op = .load ty x)
    (g : Nat) (hx : a.eval x = .pointer (some ⟨g, 0, none⟩)) (t : TypeId) (cs : Array Value) (fr : Nat × Nat) (d : TypeDesc) (hg : w.heap[g]? = some (.cells cs t fr))
    (hu : P.underlying ty = some d) (hd : (match d with | .struct _ | .array _ _ => true | _ => false) = true) (hi : (P.info? ty).map (·.size) = some cs.size)
    (h : wpList P ops Q rest (a.put o.dst (.agg cs)) w) : wpList P ops Q (o :: rest) a w :=
  BigFrame.wpList_want hw fun K hK => wp_load_row ty x ho g hx t cs fr d hg hu hd hi (hK _ _ h)
set_option maxHeartbeats 4000000 in
set_option maxRecDepth 100000 in
theorem eq_a16 (a0 a1 a2 a3 a4 a5 a6 a7 a8 a9 b0 b1 b2 b3 b4 b5 : Int) (w : World) : (Op.equalIn 9999 35 (.agg #[.int .i64 a0, .int .i64 a1, .int .i64 a2, .int .i64 a3, .int .i64 a4, .int .i64 a5, .int .i64 a6, .int .i64 a7, .int .i64 a8, .int .i64 a9, .int .i64 b0, .int .i64 b1, .int .i64 b2, .int .i64 b3, .int .i64 b4, .int .i64 b5]) (.agg #[.int .i64 a0, .int .i64 a1, .int .i64 a2, .int .i64 a3, .int .i64 a4, .int .i64 a5, .int .i64 a6, .int .i64 a7, .int .i64 a8, .int .i64 a9, .int .i64 b0, .int .i64 b1, .int .i64 b2, .int .i64 b3, .int .i64 b4, .int .i64 b5])).run Try.prog w = .ok true w := by
  have hu2 := Try.underlying35
  have hu3 := Try.underlying3
  have e9 : (9999 : Nat) = 9998 + 1 := rfl
  rw [e9]
  unfold Op.equalIn
  have ha : ∀ W, (isAgg 3).run Try.prog W = .ok false W := fun W => by unfold isAgg; rw [Sem.run_bind, run_underlying hu3]; rfl
  have hr : List.range' 0 16 = [0, 1, 2, 3, 4, 5, 6, 7, 8, 9, 10, 11, 12, 13, 14, 15] := rfl
  simp only [Sem.run_bind, run_underlying hu2, Result.andThen_ok]
  go_simp
set_option maxHeartbeats 4000000 in
set_option maxRecDepth 100000 in
theorem neq_cpu (z : List Int) (p q : Int) (hz : z.length = 16) (w : World) : (binOp .neq 40 (.agg (cellsI (z ++ [p, q]))) (.agg (cellsI (z ++ [p, q])))).run Try.prog w = .ok (.bool false) w := by
  obtain ⟨a0, a1, a2, a3, a4, a5, a6, a7, a8, a9, b0, b1, b2, b3, b4, b5, rfl⟩ := list16 z hz
  have hu := Try.underlying40
  have hu2 := Try.underlying35
  have hu3 := Try.underlying3
  show (binOp .neq 40 (.agg #[.int .i64 a0, .int .i64 a1, .int .i64 a2, .int .i64 a3, .int .i64 a4, .int .i64 a5, .int .i64 a6, .int .i64 a7, .int .i64 a8, .int .i64 a9, .int .i64 b0, .int .i64 b1, .int .i64 b2, .int .i64 b3, .int .i64 b4, .int .i64 b5, .int .i64 p, .int .i64 q]) (.agg #[.int .i64 a0, .int .i64 a1, .int .i64 a2, .int .i64 a3, .int .i64 a4, .int .i64 a5, .int .i64 a6, .int .i64 a7, .int .i64 a8, .int .i64 a9, .int .i64 b0, .int .i64 b1, .int .i64 b2, .int .i64 b3, .int .i64 b4, .int .i64 b5, .int .i64 p, .int .i64 q])).run Try.prog w = .ok (.bool false) w
  have he := eq_a16 a0 a1 a2 a3 a4 a5 a6 a7 a8 a9 b0 b1 b2 b3 b4 b5
  go_simp
theorem neq_cpu_op (z : List Int) (p q : Int) (hz : z.length = 16) (o : Oper) (a : Act) (x y : Operand) (ho : o.op = .binOp .neq 40 x y 40) (hx : a.eval x = .agg (cellsI (z ++ [p, q]))) (hy : a.eval y = .agg (cellsI (z ++ [p, q]))) (w : World) :
    (execOp a.eval o).run Try.prog w = .ok (.value (.bool false)) w := by
  have hg : (eqGuard .neq 40 x y (.agg (cellsI (z ++ [p, q]))) (.agg (cellsI (z ++ [p, q])))).run Try.prog w = .ok () w := run_eqGuard_agg w .neq 40 x y _ _ (by kernel_rfl)
  unfold execOp
  simp only [ho, hx, hy, Sem.run_bind, hg, Result.andThen_ok, neq_cpu z p q hz w, Sem.run_pure]
/-- What the calls on a processor yield, a register set: r of number j of the sixteen. -/
structure RegsTold (x z : List Int) (p q r n v y : Int) (j : Nat) (M S : Int) : Prop where
  len : z.length = 16
  seti : ∀ W : World, Calls Try.prog 21 #[.agg (cellsI (x ++ [p, q])), .int .i64 r, .int .i64 n, .int .i64 v] W fun e w' => e = .returned (.tuple #[.agg (cellsI (z ++ [p, q])), .int .i64 0]) ∧ Below W.heap.size W w'
  sets : ∀ W : World, Calls Try.prog 20 #[.agg (cellsI (x ++ [p, q])), .int .i64 r, .int .i64 n, .int .i64 v] W fun e w' => e = .returned (.tuple #[.agg (cellsI (z ++ [p, q])), .int .i64 0]) ∧ Below W.heap.size W w'
  get : impl_GetReg.f z q r n = some (y, 0)
  whole : impl_GetReg.f z q (j : Int) 8 = some (rdOf 0 z (j : Int), 0)
  four : n = 4 → rdOf 0 z (j : Int) = y
  rest : ∀ i : Nat, i < 16 → i ≠ j → rdOf 0 z (i : Int) = rdOf 0 x (i : Int)
  bits : n ≤ 2 → (Go.bits .andNot .i64 (rdOf 0 z (j : Int)) M == Go.bits .andNot .i64 (rdOf 0 x (j : Int)) M) = true ∧ (Go.bits .and .i64 (rdOf 0 z (j : Int)) M == S) = true
theorem cpu_at (x : List Int) (hx : x.length = 16) (a b : Int) (i : Nat) (hi : i < 16) : (cellsI (x ++ [a, b]))[i]? = some (.int .i64 (rdOf 0 x i)) := cpu_get x hx a b i hi
set_option maxHeartbeats 8000000 in
set_option maxRecDepth 100000 in
theorem laws_FnRegs.long (A0 : Option Addr) (c0 : Nat) (l : List Int) (A1 : Option Addr) (c1 : Nat) (m : List Int) (w : World) (h : 1048576 < l.length ∨ 1048576 < m.length) :
    Calls Try.prog 8 #[.slice A0 l.length c0, .slice A1 m.length c1] w fun e w' => e = .returned (.bool true) ∧ Below w.heap.size w w' := by
  by_cases h0 : 1048576 < l.length
  · have d0 : decide ((l.length : Int) > 1048576) = true := decide_eq_true (by omega)
    clear h h0
    go_enter Try.func8, Try.ntmps8
    go_wp2
    go_ret
    exact ⟨rfl, Below.refl _ _⟩
  · have d0 : decide ((l.length : Int) > 1048576) = false := decide_eq_false (by omega)
    have d1 : decide ((m.length : Int) > 1048576) = true := decide_eq_true (by omega)
    clear h h0
    go_enter Try.func8, Try.ntmps8
    go_wp2
    go_ret
    exact ⟨rfl, Below.refl _ _⟩
set_option maxHeartbeats 8000000 in
set_option maxRecDepth 100000 in
theorem laws_FnRegs.n8 (k : Nat) (G : Int → Prop) (A0 : Option Addr) (c0 : Nat) (l : List Int) (A1 : Option Addr) (c1 : Nat) (m : List Int) (w : World) (v y : Int) (j : Nat) (hN : NextOK l) (hWd : WideOK l) (hF : FlagsOK k l G)
    (hr0 : Kd.C (Kd.int .u8) w A0 l.length l) (hc0 : l.length ≤ c0) (hr1 : Kd.C (Kd.int .u8) w A1 m.length m) (hc1 : m.length ≤ c1) (b0 : l.length ≤ 1048576) (b1 : m.length ≤ 1048576)
    (hv : spec_NumberOf.f m = some v) (hn : laws_sizeAt.f m 0 = some 8) (ho : impl_ZeroOf.f v 8 = some (y, 0)) (h1 : laws_at.f m 1 16 = some (j : Int)) (r1 : j < 16)
    (hall : ∀ (x : List Int) (p q : Int), x.length = 16 → (∀ n ∈ x, In64 n) → In64 p → G q → ∃ z : List Int, RegsTold x z p q (j : Int) 8 v y j 0 0) :
    Calls Try.prog 8 #[.slice A0 l.length c0, .slice A1 m.length c1] w fun e w' => e = .returned (.bool true) ∧ Below w.heap.size w w' := by
  have hu := Aside0.mk Try.underlying40
  have hz : Aside0 (∀ (x : List Int) (p q : Int), x.length = 16 → (Try.prog.info? 40).map (·.size) = some (cellsI (x ++ [p, q])).size) := ⟨fun x p q hx => by rw [cpu_size x hx]; kernel_rfl⟩
  have HL := Aside0.mk (Below.refl w.heap.size w)
  have HJ := Aside0.mk (show j < 16 by omega)
  have hN' := Aside0.mk hN
  have hWd' := Aside0.mk hWd
  have hF' := Aside0.mk hF
  have hr0' := Aside0.mk hr0
  have hc0' := Aside0.mk hc0
  have hr1' := Aside0.mk hr1
  have hc1' := Aside0.mk hc1
  have hv' := Aside0.mk hv
  have hn' := Aside0.mk hn
  have ho' := Aside0.mk ho
  have h1' := Aside0.mk h1
  have hall' := Aside0.mk hall
  clear hN hWd hF hr0 hc0 hr1 hc1 hv hn ho h1 hall
  have d0 : decide ((l.length : Int) > 1048576) = false := decide_eq_false (by omega)
  have d1 : decide ((m.length : Int) > 1048576) = false := decide_eq_false (by omega)
  have j0 : (0 : Int) ≤ (j : Int) := by omega
  have j1 : (j : Int) < 16 := by omega
  have hjm : (j : Int) % 16 = (j : Int) := by omega
  go_enter Try.func8, Try.ntmps8
  go_wp2_with fail
  refine (spec_CpuDrawn.calls k G A0 c0 l _ hN'.out hWd'.out hF'.out hr0'.out hc0'.out).mono ?_
  rintro e W1 ⟨⟨x, p, q, rfl, hx, hr, hp, hq⟩, hb⟩
  obtain ⟨z, HT⟩ := hall'.out x p q hx hr hp hq
  replace HT := Aside0.mk HT
  replace HL := Aside0.mk (below_step HL.out hb)
  have HX := Aside0.mk hx
  clear hx hr hp hq hb hall'
  go_wp2_with ((change wpList _ _ _ _ _ (W1.alloc (.cells (cellsI (List.replicate 16 0 ++ [0, 0])) 40)); refine wpList_store_row rfl 40 _ _ rfl W1.heap.size (cellsI (x ++ [p, q])) rfl rfl 40 _ (blk_new W1 (.cells (cellsI (List.replicate 16 0 ++ [0, 0])) 40)) (hz.out _ _ _ HX.out) (by rw [cpu_size _ HX.out]; rfl) (cellsI_all _) ?_; obtain ⟨h1, h2, h3⟩ := alloc_row W1 40 (List.replicate 16 0 ++ [0, 0]) (x ++ [p, q]); generalize (W1.alloc (.cells (cellsI (List.replicate 16 0 ++ [0, 0])) 40)).setRow W1.heap.size (cellsI (x ++ [p, q])) = W2 at *; replace HL := Aside0.mk (h3 _ _ HL.out.size HL.out);  have GC := Aside0.mk h1; clear h1 h2 h3; generalize W1.heap.size = gc at *))
  refine (spec_NumberOf.calls _ _ m v _ (Kd.C_below hr1'.out HL.out) hc1'.out hv'.out).mono ?_
  rintro e W3 ⟨rfl, hb⟩
  replace HL := Aside0.mk (below_step HL.out hb); replace GC := Aside0.mk (blk_below GC.out hb); clear hb
  go_wp2_with fail
  refine (laws_sizeAt.calls _ _ m 0 8 _ (Kd.C_below hr1'.out HL.out) hc1'.out hn'.out).mono ?_
  rintro e W4 ⟨rfl, hb⟩
  replace HL := Aside0.mk (below_step HL.out hb); replace GC := Aside0.mk (blk_below GC.out hb); clear hb
  go_wp2_with fail
  refine (laws_at.calls _ _ m 1 16 (j : Int) _ (Kd.C_below hr1'.out HL.out) hc1'.out h1'.out).mono ?_
  rintro e W5 ⟨rfl, hd⟩
  have hb := hd.below
  replace HL := Aside0.mk (below_step HL.out hb); replace GC := Aside0.mk (blk_below GC.out hb); clear hb
  clear hd
  go_wp2_with (refine wpList_load_row rfl 40 _ rfl gc rfl 40 (cellsI (x ++ [p, q])) (0, 0) _ GC.out hu.out rfl (hz.out _ _ _ HX.out) ?_)
  refine (HT.out.seti _).mono ?_
  rintro e W8 ⟨rfl, hb⟩
  replace HL := Aside0.mk (below_step HL.out hb); replace GC := Aside0.mk (blk_below GC.out hb); clear hb
  go_wp2_with (first | (change wpList _ _ _ _ _ (W8.alloc (.cells (cellsI (List.replicate 16 0 ++ [0, 0])) 40)); refine wpList_store_row rfl 40 _ _ rfl W8.heap.size (cellsI (z ++ [p, q])) rfl rfl 40 _ (blk_new W8 (.cells (cellsI (List.replicate 16 0 ++ [0, 0])) 40)) (hz.out _ _ _ HT.out.len) (by rw [cpu_size _ HT.out.len]; rfl) (cellsI_all _) ?_; obtain ⟨h1, h2, h3⟩ := alloc_row W8 40 (List.replicate 16 0 ++ [0, 0]) (z ++ [p, q]); generalize (W8.alloc (.cells (cellsI (List.replicate 16 0 ++ [0, 0])) 40)).setRow W8.heap.size (cellsI (z ++ [p, q])) = W9 at *; replace HL := Aside0.mk (h3 _ _ HL.out.size HL.out); replace GC := Aside0.mk (h2 _ _ GC.out); have GX := Aside0.mk h1; clear h1 h2 h3; generalize W8.heap.size = gx at *) | (refine wpList_load_row rfl 40 _ rfl gc rfl 40 (cellsI (x ++ [p, q])) (0, 0) _ GC.out hu.out rfl (hz.out _ _ _ HX.out) ?_))
  refine (HT.out.sets _).mono ?_
  rintro e W10 ⟨rfl, hb⟩
  replace HL := Aside0.mk (below_step HL.out hb); replace GC := Aside0.mk (blk_below GC.out hb); replace GX := Aside0.mk (blk_below GX.out hb); clear hb
  go_wp2_with (first | (change wpList _ _ _ _ _ (W10.alloc (.cells (cellsI (List.replicate 16 0 ++ [0, 0])) 40)); refine wpList_store_row rfl 40 _ _ rfl W10.heap.size (cellsI (z ++ [p, q])) rfl rfl 40 _ (blk_new W10 (.cells (cellsI (List.replicate 16 0 ++ [0, 0])) 40)) (hz.out _ _ _ HT.out.len) (by rw [cpu_size _ HT.out.len]; rfl) (cellsI_all _) ?_; obtain ⟨h1, h2, h3⟩ := alloc_row W10 40 (List.replicate 16 0 ++ [0, 0]) (z ++ [p, q]); generalize (W10.alloc (.cells (cellsI (List.replicate 16 0 ++ [0, 0])) 40)).setRow W10.heap.size (cellsI (z ++ [p, q])) = W11 at *; replace HL := Aside0.mk (h3 _ _ HL.out.size HL.out); replace GC := Aside0.mk (h2 _ _ GC.out);replace GX := Aside0.mk (h2 _ _ GX.out); have GW := Aside0.mk h1; clear h1 h2 h3; generalize W10.heap.size = gw at *) | (refine wpList_load_row rfl 40 _ rfl gx rfl 40 (cellsI (z ++ [p, q])) (0, 0) _ GX.out hu.out rfl (hz.out _ _ _ HT.out.len) ?_))
  refine (impl_GetReg.calls z p q HT.out.len _ _ y 0 _ HT.out.get).mono ?_
  rintro e W12 ⟨rfl, hb⟩
  replace HL := Aside0.mk (below_step HL.out hb); replace GC := Aside0.mk (blk_below GC.out hb); replace GX := Aside0.mk (blk_below GX.out hb); replace GW := Aside0.mk (blk_below GW.out hb); clear hb
  go_wp2_with fail
  refine (impl_ZeroOf.calls v 8 y 0 _ ho'.out).mono ?_
  rintro e W13 ⟨rfl, hd⟩
  have hb := hd.below
  replace HL := Aside0.mk (below_step HL.out hb); replace GC := Aside0.mk (blk_below GC.out hb); replace GX := Aside0.mk (blk_below GX.out hb); replace GW := Aside0.mk (blk_below GW.out hb); clear hb
  clear hd
  go_upto_region 13 with (fail)
  refine wp_region_lit ?_
  refine wl_run rfl (.int .i64 0) rfl ?_
  simp only [Act.put, List.setIfInBounds_toArray, List.set_cons_zero, List.set_cons_succ]
  refine wl_run rfl (.bool false) rfl ?_
  simp only [Act.put, List.setIfInBounds_toArray, List.set_cons_zero, List.set_cons_succ]
  refine wl_run rfl (.bool false) rfl ?_
  simp only [Act.put, List.setIfInBounds_toArray, List.set_cons_zero, List.set_cons_succ]
  refine wl_load_row rfl 40 (.tmp 9) rfl gx rfl 40 (cellsI (z ++ [p, q])) (0, 0) _ GX.out hu.out rfl (hz.out _ _ _ HT.out.len) ?_
  simp only [Act.put, List.setIfInBounds_toArray, List.set_cons_zero, List.set_cons_succ]
  refine wl_load_row rfl 40 (.tmp 11) rfl gw rfl 40 (cellsI (z ++ [p, q])) (0, 0) _ GW.out hu.out rfl (hz.out _ _ _ HT.out.len) ?_
  simp only [Act.put, List.setIfInBounds_toArray, List.set_cons_zero, List.set_cons_succ]
  refine wl_run rfl (.bool false) (neq_cpu_op z p q HT.out.len _ _ (.tmp 81) (.tmp 82) rfl rfl rfl _) ?_
  simp only [Act.put, List.setIfInBounds_toArray, List.set_cons_zero, List.set_cons_succ]
  go_wp2_with (first | (refine wpList_load_row rfl 40 _ rfl gx rfl 40 (cellsI (z ++ [p, q])) (0, 0) _ GX.out hu.out rfl (hz.out _ _ _ HT.out.len) ?_))
  refine (impl_GetReg.calls z p q HT.out.len _ _ _ 0 _ HT.out.whole).mono ?_
  rintro e W14 ⟨rfl, hb⟩
  replace HL := Aside0.mk (below_step HL.out hb); replace GC := Aside0.mk (blk_below GC.out hb); replace GX := Aside0.mk (blk_below GX.out hb); replace GW := Aside0.mk (blk_below GW.out hb); clear hb
  have qj := (blk_cell GC.out j).trans (cpu_at x HX.out p q j HJ.out)
  go_wp2
  clear qj
  go_loopg [20] 16 (fun kq vi wr => ∃ i : Nat, vi = .int .i64 (i : Int) ∧ Aside0 (i + kq = 16) ∧ Aside0 (wr.heap[gc]? = some (.cells (cellsI (x ++ [p, q])) 40 (0, 0))) ∧ Aside0 (wr.heap[gx]? = some (.cells (cellsI (z ++ [p, q])) 40 (0, 0))) ∧ Aside0 (Below w.heap.size w wr))
  case atStart => exact ⟨0, rfl, ⟨rfl⟩, GC, GX, HL⟩
  case round =>
    clear GC GX GW HL
    obtain ⟨i, rfl, HI, GC, GX, HL⟩ := hrel
    cases gk with
    | zero =>
      have hi : i = 16 := by have := HI.out; omega
      subst hi
      have e1 : decide ((16 : Int) < 16) = false := rfl
      go_wp2
      go_ret
      exact ⟨rfl, HL.out⟩
    | succ k1 =>
      have hi : i < 16 := by have := HI.out; omega
      have e1 : decide ((i : Int) < 16) = true := decide_eq_true (by omega)
      have i0 : (0 : Int) ≤ (i : Int) := by omega
      have i1 : (i : Int) < 16 := by omega
      by_cases hij : i = j
      · subst hij
        have e2 : ((i : Int) != (i : Int)) = false := by simp
        go_wp2
        go_quiet (fail)
        go_wp2
        go_roundg k1
        case measure => omega
        case rel => exact ⟨i + 1, by first | rfl | (simp; done) | go_num, ⟨by have := HI.out; omega⟩, ⟨blk_drewN GC.out _⟩, ⟨blk_drewN GX.out _⟩, ⟨pw_below_drewN HL.out _⟩⟩
      · have e2 : ((i : Int) != (j : Int)) = true := by simp; omega
        have q1 := (blk_cell GX.out i).trans (cpu_at z HT.out.len p q i hi)
        rw [HT.out.rest i hi hij] at q1
        have q2 := (blk_cell GC.out i).trans (cpu_at x HX.out p q i hi)
        clear hij
        go_wp2
        go_quiet (fail)
        go_wp2
        go_roundg k1
        case measure => omega
        case rel => exact ⟨i + 1, by first | rfl | (simp; done) | go_num, ⟨by have := HI.out; omega⟩, ⟨blk_drewN GC.out _⟩, ⟨blk_drewN GX.out _⟩, ⟨pw_below_drewN HL.out _⟩⟩
set_option maxHeartbeats 8000000 in
set_option maxRecDepth 100000 in
theorem laws_FnRegs.n4 (k : Nat) (G : Int → Prop) (A0 : Option Addr) (c0 : Nat) (l : List Int) (A1 : Option Addr) (c1 : Nat) (m : List Int) (w : World) (v y : Int) (j : Nat) (hN : NextOK l) (hWd : WideOK l) (hF : FlagsOK k l G)
    (hr0 : Kd.C (Kd.int .u8) w A0 l.length l) (hc0 : l.length ≤ c0) (hr1 : Kd.C (Kd.int .u8) w A1 m.length m) (hc1 : m.length ≤ c1) (b0 : l.length ≤ 1048576) (b1 : m.length ≤ 1048576)
    (hv : spec_NumberOf.f m = some v) (hn : laws_sizeAt.f m 0 = some 4) (ho : impl_ZeroOf.f v 4 = some (y, 0)) (h1 : laws_at.f m 1 16 = some (j : Int)) (r1 : j < 16)
    (hall : ∀ (x : List Int) (p q : Int), x.length = 16 → (∀ n ∈ x, In64 n) → In64 p → G q → ∃ z : List Int, RegsTold x z p q (j : Int) 4 v y j 0 0) :
    Calls Try.prog 8 #[.slice A0 l.length c0, .slice A1 m.length c1] w fun e w' => e = .returned (.bool true) ∧ Below w.heap.size w w' := by
  have hu := Aside0.mk Try.underlying40
  have hz : Aside0 (∀ (x : List Int) (p q : Int), x.length = 16 → (Try.prog.info? 40).map (·.size) = some (cellsI (x ++ [p, q])).size) := ⟨fun x p q hx => by rw [cpu_size x hx]; kernel_rfl⟩
  have HL := Aside0.mk (Below.refl w.heap.size w)
  have HJ := Aside0.mk (show j < 16 by omega)
  have hN' := Aside0.mk hN
  have hWd' := Aside0.mk hWd
  have hF' := Aside0.mk hF
  have hr0' := Aside0.mk hr0
  have hc0' := Aside0.mk hc0
  have hr1' := Aside0.mk hr1
  have hc1' := Aside0.mk hc1
  have hv' := Aside0.mk hv
  have hn' := Aside0.mk hn
  have ho' := Aside0.mk ho
  have h1' := Aside0.mk h1
  have hall' := Aside0.mk hall
  clear hN hWd hF hr0 hc0 hr1 hc1 hv hn ho h1 hall
  have d0 : decide ((l.length : Int) > 1048576) = false := decide_eq_false (by omega)
  have d1 : decide ((m.length : Int) > 1048576) = false := decide_eq_false (by omega)
  have j0 : (0 : Int) ≤ (j : Int) := by omega
  have j1 : (j : Int) < 16 := by omega
  have hjm : (j : Int) % 16 = (j : Int) := by omega
  go_enter Try.func8, Try.ntmps8
  go_wp2_with fail
  refine (spec_CpuDrawn.calls k G A0 c0 l _ hN'.out hWd'.out hF'.out hr0'.out hc0'.out).mono ?_
  rintro e W1 ⟨⟨x, p, q, rfl, hx, hr, hp, hq⟩, hb⟩
  obtain ⟨z, HT⟩ := hall'.out x p q hx hr hp hq
  replace HT := Aside0.mk HT
  replace HL := Aside0.mk (below_step HL.out hb)
  have HX := Aside0.mk hx
  clear hx hr hp hq hb hall'
  go_wp2_with ((change wpList _ _ _ _ _ (W1.alloc (.cells (cellsI (List.replicate 16 0 ++ [0, 0])) 40)); refine wpList_store_row rfl 40 _ _ rfl W1.heap.size (cellsI (x ++ [p, q])) rfl rfl 40 _ (blk_new W1 (.cells (cellsI (List.replicate 16 0 ++ [0, 0])) 40)) (hz.out _ _ _ HX.out) (by rw [cpu_size _ HX.out]; rfl) (cellsI_all _) ?_; obtain ⟨h1, h2, h3⟩ := alloc_row W1 40 (List.replicate 16 0 ++ [0, 0]) (x ++ [p, q]); generalize (W1.alloc (.cells (cellsI (List.replicate 16 0 ++ [0, 0])) 40)).setRow W1.heap.size (cellsI (x ++ [p, q])) = W2 at *; replace HL := Aside0.mk (h3 _ _ HL.out.size HL.out);  have GC := Aside0.mk h1; clear h1 h2 h3; generalize W1.heap.size = gc at *))
  refine (spec_NumberOf.calls _ _ m v _ (Kd.C_below hr1'.out HL.out) hc1'.out hv'.out).mono ?_
  rintro e W3 ⟨rfl, hb⟩
  replace HL := Aside0.mk (below_step HL.out hb); replace GC := Aside0.mk (blk_below GC.out hb); clear hb
  go_wp2_with fail
  refine (laws_sizeAt.calls _ _ m 0 4 _ (Kd.C_below hr1'.out HL.out) hc1'.out hn'.out).mono ?_
  rintro e W4 ⟨rfl, hb⟩
  replace HL := Aside0.mk (below_step HL.out hb); replace GC := Aside0.mk (blk_below GC.out hb); clear hb
  go_wp2_with fail
  refine (laws_at.calls _ _ m 1 16 (j : Int) _ (Kd.C_below hr1'.out HL.out) hc1'.out h1'.out).mono ?_
  rintro e W5 ⟨rfl, hd⟩
  have hb := hd.below
  replace HL := Aside0.mk (below_step HL.out hb); replace GC := Aside0.mk (blk_below GC.out hb); clear hb
  clear hd
  go_wp2_with (refine wpList_load_row rfl 40 _ rfl gc rfl 40 (cellsI (x ++ [p, q])) (0, 0) _ GC.out hu.out rfl (hz.out _ _ _ HX.out) ?_)
  refine (HT.out.seti _).mono ?_
  rintro e W8 ⟨rfl, hb⟩
  replace HL := Aside0.mk (below_step HL.out hb); replace GC := Aside0.mk (blk_below GC.out hb); clear hb
  go_wp2_with (first | (change wpList _ _ _ _ _ (W8.alloc (.cells (cellsI (List.replicate 16 0 ++ [0, 0])) 40)); refine wpList_store_row rfl 40 _ _ rfl W8.heap.size (cellsI (z ++ [p, q])) rfl rfl 40 _ (blk_new W8 (.cells (cellsI (List.replicate 16 0 ++ [0, 0])) 40)) (hz.out _ _ _ HT.out.len) (by rw [cpu_size _ HT.out.len]; rfl) (cellsI_all _) ?_; obtain ⟨h1, h2, h3⟩ := alloc_row W8 40 (List.replicate 16 0 ++ [0, 0]) (z ++ [p, q]); generalize (W8.alloc (.cells (cellsI (List.replicate 16 0 ++ [0, 0])) 40)).setRow W8.heap.size (cellsI (z ++ [p, q])) = W9 at *; replace HL := Aside0.mk (h3 _ _ HL.out.size HL.out); replace GC := Aside0.mk (h2 _ _ GC.out); have GX := Aside0.mk h1; clear h1 h2 h3; generalize W8.heap.size = gx at *) | (refine wpList_load_row rfl 40 _ rfl gc rfl 40 (cellsI (x ++ [p, q])) (0, 0) _ GC.out hu.out rfl (hz.out _ _ _ HX.out) ?_))
  refine (HT.out.sets _).mono ?_
  rintro e W10 ⟨rfl, hb⟩
  replace HL := Aside0.mk (below_step HL.out hb); replace GC := Aside0.mk (blk_below GC.out hb); replace GX := Aside0.mk (blk_below GX.out hb); clear hb
  go_wp2_with (first | (change wpList _ _ _ _ _ (W10.alloc (.cells (cellsI (List.replicate 16 0 ++ [0, 0])) 40)); refine wpList_store_row rfl 40 _ _ rfl W10.heap.size (cellsI (z ++ [p, q])) rfl rfl 40 _ (blk_new W10 (.cells (cellsI (List.replicate 16 0 ++ [0, 0])) 40)) (hz.out _ _ _ HT.out.len) (by rw [cpu_size _ HT.out.len]; rfl) (cellsI_all _) ?_; obtain ⟨h1, h2, h3⟩ := alloc_row W10 40 (List.replicate 16 0 ++ [0, 0]) (z ++ [p, q]); generalize (W10.alloc (.cells (cellsI (List.replicate 16 0 ++ [0, 0])) 40)).setRow W10.heap.size (cellsI (z ++ [p, q])) = W11 at *; replace HL := Aside0.mk (h3 _ _ HL.out.size HL.out); replace GC := Aside0.mk (h2 _ _ GC.out);replace GX := Aside0.mk (h2 _ _ GX.out); have GW := Aside0.mk h1; clear h1 h2 h3; generalize W10.heap.size = gw at *) | (refine wpList_load_row rfl 40 _ rfl gx rfl 40 (cellsI (z ++ [p, q])) (0, 0) _ GX.out hu.out rfl (hz.out _ _ _ HT.out.len) ?_))
  refine (impl_GetReg.calls z p q HT.out.len _ _ y 0 _ HT.out.get).mono ?_
  rintro e W12 ⟨rfl, hb⟩
  replace HL := Aside0.mk (below_step HL.out hb); replace GC := Aside0.mk (blk_below GC.out hb); replace GX := Aside0.mk (blk_below GX.out hb); replace GW := Aside0.mk (blk_below GW.out hb); clear hb
  go_wp2_with fail
  refine (impl_ZeroOf.calls v 4 y 0 _ ho'.out).mono ?_
  rintro e W13 ⟨rfl, hd⟩
  have hb := hd.below
  replace HL := Aside0.mk (below_step HL.out hb); replace GC := Aside0.mk (blk_below GC.out hb); replace GX := Aside0.mk (blk_below GX.out hb); replace GW := Aside0.mk (blk_below GW.out hb); clear hb
  clear hd
  have f4 : (rdOf 0 z (j : Int) != y) = false := by rw [HT.out.four rfl]; simp
  go_upto_region 13 with (fail)
  refine wp_region_lit ?_
  refine wl_run rfl (.int .i64 0) rfl ?_
  simp only [Act.put, List.setIfInBounds_toArray, List.set_cons_zero, List.set_cons_succ]
  refine wl_run rfl (.bool false) rfl ?_
  simp only [Act.put, List.setIfInBounds_toArray, List.set_cons_zero, List.set_cons_succ]
  refine wl_run rfl (.bool false) rfl ?_
  simp only [Act.put, List.setIfInBounds_toArray, List.set_cons_zero, List.set_cons_succ]
  refine wl_load_row rfl 40 (.tmp 9) rfl gx rfl 40 (cellsI (z ++ [p, q])) (0, 0) _ GX.out hu.out rfl (hz.out _ _ _ HT.out.len) ?_
  simp only [Act.put, List.setIfInBounds_toArray, List.set_cons_zero, List.set_cons_succ]
  refine wl_load_row rfl 40 (.tmp 11) rfl gw rfl 40 (cellsI (z ++ [p, q])) (0, 0) _ GW.out hu.out rfl (hz.out _ _ _ HT.out.len) ?_
  simp only [Act.put, List.setIfInBounds_toArray, List.set_cons_zero, List.set_cons_succ]
  refine wl_run rfl (.bool false) (neq_cpu_op z p q HT.out.len _ _ (.tmp 81) (.tmp 82) rfl rfl rfl _) ?_
  simp only [Act.put, List.setIfInBounds_toArray, List.set_cons_zero, List.set_cons_succ]
  go_wp2_with (first | (refine wpList_load_row rfl 40 _ rfl gx rfl 40 (cellsI (z ++ [p, q])) (0, 0) _ GX.out hu.out rfl (hz.out _ _ _ HT.out.len) ?_))
  refine (impl_GetReg.calls z p q HT.out.len _ _ _ 0 _ HT.out.whole).mono ?_
  rintro e W14 ⟨rfl, hb⟩
  replace HL := Aside0.mk (below_step HL.out hb); replace GC := Aside0.mk (blk_below GC.out hb); replace GX := Aside0.mk (blk_below GX.out hb); replace GW := Aside0.mk (blk_below GW.out hb); clear hb
  have qj := (blk_cell GC.out j).trans (cpu_at x HX.out p q j HJ.out)
  go_wp2
  clear qj
  go_loopg [20] 16 (fun kq vi wr => ∃ i : Nat, vi = .int .i64 (i : Int) ∧ Aside0 (i + kq = 16) ∧ Aside0 (wr.heap[gc]? = some (.cells (cellsI (x ++ [p, q])) 40 (0, 0))) ∧ Aside0 (wr.heap[gx]? = some (.cells (cellsI (z ++ [p, q])) 40 (0, 0))) ∧ Aside0 (Below w.heap.size w wr))
  case atStart => exact ⟨0, rfl, ⟨rfl⟩, GC, GX, HL⟩
  case round =>
    clear GC GX GW HL
    obtain ⟨i, rfl, HI, GC, GX, HL⟩ := hrel
    cases gk with
    | zero =>
      have hi : i = 16 := by have := HI.out; omega
      subst hi
      have e1 : decide ((16 : Int) < 16) = false := rfl
      go_wp2
      go_ret
      exact ⟨rfl, HL.out⟩
    | succ k1 =>
      have hi : i < 16 := by have := HI.out; omega
      have e1 : decide ((i : Int) < 16) = true := decide_eq_true (by omega)
      have i0 : (0 : Int) ≤ (i : Int) := by omega
      have i1 : (i : Int) < 16 := by omega
      by_cases hij : i = j
      · subst hij
        have e2 : ((i : Int) != (i : Int)) = false := by simp
        go_wp2
        go_quiet (fail)
        go_wp2
        go_roundg k1
        case measure => omega
        case rel => exact ⟨i + 1, by first | rfl | (simp; done) | go_num, ⟨by have := HI.out; omega⟩, ⟨blk_drewN GC.out _⟩, ⟨blk_drewN GX.out _⟩, ⟨pw_below_drewN HL.out _⟩⟩
      · have e2 : ((i : Int) != (j : Int)) = true := by simp; omega
        have q1 := (blk_cell GX.out i).trans (cpu_at z HT.out.len p q i hi)
        rw [HT.out.rest i hi hij] at q1
        have q2 := (blk_cell GC.out i).trans (cpu_at x HX.out p q i hi)
        clear hij
        go_wp2
        go_quiet (fail)
        go_wp2
        go_roundg k1
        case measure => omega
        case rel => exact ⟨i + 1, by first | rfl | (simp; done) | go_num, ⟨by have := HI.out; omega⟩, ⟨blk_drewN GC.out _⟩, ⟨blk_drewN GX.out _⟩, ⟨pw_below_drewN HL.out _⟩⟩
set_option maxHeartbeats 8000000 in
set_option maxRecDepth 100000 in
theorem laws_FnRegs.n2 (k : Nat) (G : Int → Prop) (A0 : Option Addr) (c0 : Nat) (l : List Int) (A1 : Option Addr) (c1 : Nat) (m : List Int) (w : World) (v y : Int) (j : Nat) (hN : NextOK l) (hWd : WideOK l) (hF : FlagsOK k l G)
    (hr0 : Kd.C (Kd.int .u8) w A0 l.length l) (hc0 : l.length ≤ c0) (hr1 : Kd.C (Kd.int .u8) w A1 m.length m) (hc1 : m.length ≤ c1) (b0 : l.length ≤ 1048576) (b1 : m.length ≤ 1048576)
    (hv : spec_NumberOf.f m = some v) (hn : laws_sizeAt.f m 0 = some 2) (ho : impl_ZeroOf.f v 2 = some (y, 0)) (h1 : laws_at.f m 1 16 = some (j : Int)) (r1 : j < 16)
    (hall : ∀ (x : List Int) (p q : Int), x.length = 16 → (∀ n ∈ x, In64 n) → In64 p → G q → ∃ z : List Int, RegsTold x z p q (j : Int) 2 v y j 65535 (wrap64 y)) :
    Calls Try.prog 8 #[.slice A0 l.length c0, .slice A1 m.length c1] w fun e w' => e = .returned (.bool true) ∧ Below w.heap.size w w' := by
  have hu := Aside0.mk Try.underlying40
  have hz : Aside0 (∀ (x : List Int) (p q : Int), x.length = 16 → (Try.prog.info? 40).map (·.size) = some (cellsI (x ++ [p, q])).size) := ⟨fun x p q hx => by rw [cpu_size x hx]; kernel_rfl⟩
  have HL := Aside0.mk (Below.refl w.heap.size w)
  have HJ := Aside0.mk (show j < 16 by omega)
  have hN' := Aside0.mk hN
  have hWd' := Aside0.mk hWd
  have hF' := Aside0.mk hF
  have hr0' := Aside0.mk hr0
  have hc0' := Aside0.mk hc0
  have hr1' := Aside0.mk hr1
  have hc1' := Aside0.mk hc1
  have hv' := Aside0.mk hv
  have hn' := Aside0.mk hn
  have ho' := Aside0.mk ho
  have h1' := Aside0.mk h1
  have hall' := Aside0.mk hall
  clear hN hWd hF hr0 hc0 hr1 hc1 hv hn ho h1 hall
  have d0 : decide ((l.length : Int) > 1048576) = false := decide_eq_false (by omega)
  have d1 : decide ((m.length : Int) > 1048576) = false := decide_eq_false (by omega)
  have j0 : (0 : Int) ≤ (j : Int) := by omega
  have j1 : (j : Int) < 16 := by omega
  have hjm : (j : Int) % 16 = (j : Int) := by omega
  go_enter Try.func8, Try.ntmps8
  go_wp2_with fail
  refine (spec_CpuDrawn.calls k G A0 c0 l _ hN'.out hWd'.out hF'.out hr0'.out hc0'.out).mono ?_
  rintro e W1 ⟨⟨x, p, q, rfl, hx, hr, hp, hq⟩, hb⟩
  obtain ⟨z, HT⟩ := hall'.out x p q hx hr hp hq
  replace HT := Aside0.mk HT
  replace HL := Aside0.mk (below_step HL.out hb)
  have HX := Aside0.mk hx
  clear hx hr hp hq hb hall'
  go_wp2_with ((change wpList _ _ _ _ _ (W1.alloc (.cells (cellsI (List.replicate 16 0 ++ [0, 0])) 40)); refine wpList_store_row rfl 40 _ _ rfl W1.heap.size (cellsI (x ++ [p, q])) rfl rfl 40 _ (blk_new W1 (.cells (cellsI (List.replicate 16 0 ++ [0, 0])) 40)) (hz.out _ _ _ HX.out) (by rw [cpu_size _ HX.out]; rfl) (cellsI_all _) ?_; obtain ⟨h1, h2, h3⟩ := alloc_row W1 40 (List.replicate 16 0 ++ [0, 0]) (x ++ [p, q]); generalize (W1.alloc (.cells (cellsI (List.replicate 16 0 ++ [0, 0])) 40)).setRow W1.heap.size (cellsI (x ++ [p, q])) = W2 at *; replace HL := Aside0.mk (h3 _ _ HL.out.size HL.out);  have GC := Aside0.mk h1; clear h1 h2 h3; generalize W1.heap.size = gc at *))
  refine (spec_NumberOf.calls _ _ m v _ (Kd.C_below hr1'.out HL.out) hc1'.out hv'.out).mono ?_
  rintro e W3 ⟨rfl, hb⟩
  replace HL := Aside0.mk (below_step HL.out hb); replace GC := Aside0.mk (blk_below GC.out hb); clear hb
  go_wp2_with fail
  refine (laws_sizeAt.calls _ _ m 0 2 _ (Kd.C_below hr1'.out HL.out) hc1'.out hn'.out).mono ?_
  rintro e W4 ⟨rfl, hb⟩
  replace HL := Aside0.mk (below_step HL.out hb); replace GC := Aside0.mk (blk_below GC.out hb); clear hb
  go_wp2_with fail
  refine (laws_at.calls _ _ m 1 16 (j : Int) _ (Kd.C_below hr1'.out HL.out) hc1'.out h1'.out).mono ?_
  rintro e W5 ⟨rfl, hd⟩
  have hb := hd.below
  replace HL := Aside0.mk (below_step HL.out hb); replace GC := Aside0.mk (blk_below GC.out hb); clear hb
  clear hd
  go_wp2_with (refine wpList_load_row rfl 40 _ rfl gc rfl 40 (cellsI (x ++ [p, q])) (0, 0) _ GC.out hu.out rfl (hz.out _ _ _ HX.out) ?_)
  refine (HT.out.seti _).mono ?_
  rintro e W8 ⟨rfl, hb⟩
  replace HL := Aside0.mk (below_step HL.out hb); replace GC := Aside0.mk (blk_below GC.out hb); clear hb
  go_wp2_with (first | (change wpList _ _ _ _ _ (W8.alloc (.cells (cellsI (List.replicate 16 0 ++ [0, 0])) 40)); refine wpList_store_row rfl 40 _ _ rfl W8.heap.size (cellsI (z ++ [p, q])) rfl rfl 40 _ (blk_new W8 (.cells (cellsI (List.replicate 16 0 ++ [0, 0])) 40)) (hz.out _ _ _ HT.out.len) (by rw [cpu_size _ HT.out.len]; rfl) (cellsI_all _) ?_; obtain ⟨h1, h2, h3⟩ := alloc_row W8 40 (List.replicate 16 0 ++ [0, 0]) (z ++ [p, q]); generalize (W8.alloc (.cells (cellsI (List.replicate 16 0 ++ [0, 0])) 40)).setRow W8.heap.size (cellsI (z ++ [p, q])) = W9 at *; replace HL := Aside0.mk (h3 _ _ HL.out.size HL.out); replace GC := Aside0.mk (h2 _ _ GC.out); have GX := Aside0.mk h1; clear h1 h2 h3; generalize W8.heap.size = gx at *) | (refine wpList_load_row rfl 40 _ rfl gc rfl 40 (cellsI (x ++ [p, q])) (0, 0) _ GC.out hu.out rfl (hz.out _ _ _ HX.out) ?_))
  refine (HT.out.sets _).mono ?_
  rintro e W10 ⟨rfl, hb⟩
  replace HL := Aside0.mk (below_step HL.out hb); replace GC := Aside0.mk (blk_below GC.out hb); replace GX := Aside0.mk (blk_below GX.out hb); clear hb
  go_wp2_with (first | (change wpList _ _ _ _ _ (W10.alloc (.cells (cellsI (List.replicate 16 0 ++ [0, 0])) 40)); refine wpList_store_row rfl 40 _ _ rfl W10.heap.size (cellsI (z ++ [p, q])) rfl rfl 40 _ (blk_new W10 (.cells (cellsI (List.replicate 16 0 ++ [0, 0])) 40)) (hz.out _ _ _ HT.out.len) (by rw [cpu_size _ HT.out.len]; rfl) (cellsI_all _) ?_; obtain ⟨h1, h2, h3⟩ := alloc_row W10 40 (List.replicate 16 0 ++ [0, 0]) (z ++ [p, q]); generalize (W10.alloc (.cells (cellsI (List.replicate 16 0 ++ [0, 0])) 40)).setRow W10.heap.size (cellsI (z ++ [p, q])) = W11 at *; replace HL := Aside0.mk (h3 _ _ HL.out.size HL.out); replace GC := Aside0.mk (h2 _ _ GC.out);replace GX := Aside0.mk (h2 _ _ GX.out); have GW := Aside0.mk h1; clear h1 h2 h3; generalize W10.heap.size = gw at *) | (refine wpList_load_row rfl 40 _ rfl gx rfl 40 (cellsI (z ++ [p, q])) (0, 0) _ GX.out hu.out rfl (hz.out _ _ _ HT.out.len) ?_))
  refine (impl_GetReg.calls z p q HT.out.len _ _ y 0 _ HT.out.get).mono ?_
  rintro e W12 ⟨rfl, hb⟩
  replace HL := Aside0.mk (below_step HL.out hb); replace GC := Aside0.mk (blk_below GC.out hb); replace GX := Aside0.mk (blk_below GX.out hb); replace GW := Aside0.mk (blk_below GW.out hb); clear hb
  go_wp2_with fail
  refine (impl_ZeroOf.calls v 2 y 0 _ ho'.out).mono ?_
  rintro e W13 ⟨rfl, hd⟩
  have hb := hd.below
  replace HL := Aside0.mk (below_step HL.out hb); replace GC := Aside0.mk (blk_below GC.out hb); replace GX := Aside0.mk (blk_below GX.out hb); replace GW := Aside0.mk (blk_below GW.out hb); clear hb
  clear hd
  go_upto_region 13 with (fail)
  refine wp_region_lit ?_
  refine wl_run rfl (.int .i64 0) rfl ?_
  simp only [Act.put, List.setIfInBounds_toArray, List.set_cons_zero, List.set_cons_succ]
  refine wl_run rfl (.bool false) rfl ?_
  simp only [Act.put, List.setIfInBounds_toArray, List.set_cons_zero, List.set_cons_succ]
  refine wl_run rfl (.bool false) rfl ?_
  simp only [Act.put, List.setIfInBounds_toArray, List.set_cons_zero, List.set_cons_succ]
  refine wl_load_row rfl 40 (.tmp 9) rfl gx rfl 40 (cellsI (z ++ [p, q])) (0, 0) _ GX.out hu.out rfl (hz.out _ _ _ HT.out.len) ?_
  simp only [Act.put, List.setIfInBounds_toArray, List.set_cons_zero, List.set_cons_succ]
  refine wl_load_row rfl 40 (.tmp 11) rfl gw rfl 40 (cellsI (z ++ [p, q])) (0, 0) _ GW.out hu.out rfl (hz.out _ _ _ HT.out.len) ?_
  simp only [Act.put, List.setIfInBounds_toArray, List.set_cons_zero, List.set_cons_succ]
  refine wl_run rfl (.bool false) (neq_cpu_op z p q HT.out.len _ _ (.tmp 81) (.tmp 82) rfl rfl rfl _) ?_
  simp only [Act.put, List.setIfInBounds_toArray, List.set_cons_zero, List.set_cons_succ]
  go_wp2_with (first | (refine wpList_load_row rfl 40 _ rfl gx rfl 40 (cellsI (z ++ [p, q])) (0, 0) _ GX.out hu.out rfl (hz.out _ _ _ HT.out.len) ?_))
  refine (impl_GetReg.calls z p q HT.out.len _ _ _ 0 _ HT.out.whole).mono ?_
  rintro e W14 ⟨rfl, hb⟩
  replace HL := Aside0.mk (below_step HL.out hb); replace GC := Aside0.mk (blk_below GC.out hb); replace GX := Aside0.mk (blk_below GX.out hb); replace GW := Aside0.mk (blk_below GW.out hb); clear hb
  have qj := (blk_cell GC.out j).trans (cpu_at x HX.out p q j HJ.out)
  go_wp2
  clear qj
  go_loopg [20] 16 (fun kq vi wr => ∃ i : Nat, vi = .int .i64 (i : Int) ∧ Aside0 (i + kq = 16) ∧ Aside0 (wr.heap[gc]? = some (.cells (cellsI (x ++ [p, q])) 40 (0, 0))) ∧ Aside0 (wr.heap[gx]? = some (.cells (cellsI (z ++ [p, q])) 40 (0, 0))) ∧ Aside0 (Below w.heap.size w wr))
  case atStart => exact ⟨0, rfl, ⟨rfl⟩, GC, GX, HL⟩
  case round =>
    clear GC GX GW HL
    obtain ⟨i, rfl, HI, GC, GX, HL⟩ := hrel
    cases gk with
    | zero =>
      have hi : i = 16 := by have := HI.out; omega
      subst hi
      have e1 : decide ((16 : Int) < 16) = false := rfl
      obtain ⟨t1, t2⟩ := HT.out.bits (by decide)
      go_wp2
      go_ret
      exact ⟨by first | rfl | rw [t2] | simp [t2], HL.out⟩
    | succ k1 =>
      have hi : i < 16 := by have := HI.out; omega
      have e1 : decide ((i : Int) < 16) = true := decide_eq_true (by omega)
      have i0 : (0 : Int) ≤ (i : Int) := by omega
      have i1 : (i : Int) < 16 := by omega
      by_cases hij : i = j
      · subst hij
        have e2 : ((i : Int) != (i : Int)) = false := by simp
        go_wp2
        go_quiet (fail)
        go_wp2
        go_roundg k1
        case measure => omega
        case rel => exact ⟨i + 1, by first | rfl | (simp; done) | go_num, ⟨by have := HI.out; omega⟩, ⟨blk_drewN GC.out _⟩, ⟨blk_drewN GX.out _⟩, ⟨pw_below_drewN HL.out _⟩⟩
      · have e2 : ((i : Int) != (j : Int)) = true := by simp; omega
        have q1 := (blk_cell GX.out i).trans (cpu_at z HT.out.len p q i hi)
        rw [HT.out.rest i hi hij] at q1
        have q2 := (blk_cell GC.out i).trans (cpu_at x HX.out p q i hi)
        clear hij
        go_wp2
        go_quiet (fail)
        go_wp2
        go_roundg k1
        case measure => omega
        case rel => exact ⟨i + 1, by first | rfl | (simp; done) | go_num, ⟨by have := HI.out; omega⟩, ⟨blk_drewN GC.out _⟩, ⟨blk_drewN GX.out _⟩, ⟨pw_below_drewN HL.out _⟩⟩
set_option maxHeartbeats 8000000 in
set_option maxRecDepth 100000 in
theorem laws_FnRegs.n1lo (k : Nat) (G : Int → Prop) (A0 : Option Addr) (c0 : Nat) (l : List Int) (A1 : Option Addr) (c1 : Nat) (m : List Int) (w : World) (v y : Int) (j : Nat) (hN : NextOK l) (hWd : WideOK l) (hF : FlagsOK k l G)
    (hr0 : Kd.C (Kd.int .u8) w A0 l.length l) (hc0 : l.length ≤ c0) (hr1 : Kd.C (Kd.int .u8) w A1 m.length m) (hc1 : m.length ≤ c1) (b0 : l.length ≤ 1048576) (b1 : m.length ≤ 1048576)
    (hv : spec_NumberOf.f m = some v) (hn : laws_sizeAt.f m 0 = some 1) (ho : impl_ZeroOf.f v 1 = some (y, 0)) (h1 : laws_at.f m 1 16 = some (j : Int)) (t : Int) (h2 : laws_at.f m 2 3 = some t) (ht : t ≠ 0) (r1 : j < 16)
    (hall : ∀ (x : List Int) (p q : Int), x.length = 16 → (∀ n ∈ x, In64 n) → In64 p → G q → ∃ z : List Int, RegsTold x z p q (j : Int) 1 v y j 255 (wrap64 y)) :
    Calls Try.prog 8 #[.slice A0 l.length c0, .slice A1 m.length c1] w fun e w' => e = .returned (.bool true) ∧ Below w.heap.size w w' := by
  have hu := Aside0.mk Try.underlying40
  have hz : Aside0 (∀ (x : List Int) (p q : Int), x.length = 16 → (Try.prog.info? 40).map (·.size) = some (cellsI (x ++ [p, q])).size) := ⟨fun x p q hx => by rw [cpu_size x hx]; kernel_rfl⟩
  have HL := Aside0.mk (Below.refl w.heap.size w)
  have HJ := Aside0.mk (show j < 16 by omega)
  have hN' := Aside0.mk hN
  have hWd' := Aside0.mk hWd
  have hF' := Aside0.mk hF
  have hr0' := Aside0.mk hr0
  have hc0' := Aside0.mk hc0
  have hr1' := Aside0.mk hr1
  have hc1' := Aside0.mk hc1
  have hv' := Aside0.mk hv
  have hn' := Aside0.mk hn
  have ho' := Aside0.mk ho
  have h1' := Aside0.mk h1
  have hall' := Aside0.mk hall
  have h2' := Aside0.mk h2
  clear hN hWd hF hr0 hc0 hr1 hc1 hv hn ho h1 hall h2
  have d0 : decide ((l.length : Int) > 1048576) = false := decide_eq_false (by omega)
  have d1 : decide ((m.length : Int) > 1048576) = false := decide_eq_false (by omega)
  have j0 : (0 : Int) ≤ (j : Int) := by omega
  have j1 : (j : Int) < 16 := by omega
  have hjm : (j : Int) % 16 = (j : Int) := by omega
  go_enter Try.func8, Try.ntmps8
  go_wp2_with fail
  refine (spec_CpuDrawn.calls k G A0 c0 l _ hN'.out hWd'.out hF'.out hr0'.out hc0'.out).mono ?_
  rintro e W1 ⟨⟨x, p, q, rfl, hx, hr, hp, hq⟩, hb⟩
  obtain ⟨z, HT⟩ := hall'.out x p q hx hr hp hq
  replace HT := Aside0.mk HT
  replace HL := Aside0.mk (below_step HL.out hb)
  have HX := Aside0.mk hx
  clear hx hr hp hq hb hall'
  go_wp2_with ((change wpList _ _ _ _ _ (W1.alloc (.cells (cellsI (List.replicate 16 0 ++ [0, 0])) 40)); refine wpList_store_row rfl 40 _ _ rfl W1.heap.size (cellsI (x ++ [p, q])) rfl rfl 40 _ (blk_new W1 (.cells (cellsI (List.replicate 16 0 ++ [0, 0])) 40)) (hz.out _ _ _ HX.out) (by rw [cpu_size _ HX.out]; rfl) (cellsI_all _) ?_; obtain ⟨h1, h2, h3⟩ := alloc_row W1 40 (List.replicate 16 0 ++ [0, 0]) (x ++ [p, q]); generalize (W1.alloc (.cells (cellsI (List.replicate 16 0 ++ [0, 0])) 40)).setRow W1.heap.size (cellsI (x ++ [p, q])) = W2 at *; replace HL := Aside0.mk (h3 _ _ HL.out.size HL.out);  have GC := Aside0.mk h1; clear h1 h2 h3; generalize W1.heap.size = gc at *))
  refine (spec_NumberOf.calls _ _ m v _ (Kd.C_below hr1'.out HL.out) hc1'.out hv'.out).mono ?_
  rintro e W3 ⟨rfl, hb⟩
  replace HL := Aside0.mk (below_step HL.out hb); replace GC := Aside0.mk (blk_below GC.out hb); clear hb
  go_wp2_with fail
  refine (laws_sizeAt.calls _ _ m 0 1 _ (Kd.C_below hr1'.out HL.out) hc1'.out hn'.out).mono ?_
  rintro e W4 ⟨rfl, hb⟩
  replace HL := Aside0.mk (below_step HL.out hb); replace GC := Aside0.mk (blk_below GC.out hb); clear hb
  go_wp2_with fail
  refine (laws_at.calls _ _ m 1 16 (j : Int) _ (Kd.C_below hr1'.out HL.out) hc1'.out h1'.out).mono ?_
  rintro e W5 ⟨rfl, hd⟩
  have hb := hd.below
  replace HL := Aside0.mk (below_step HL.out hb); replace GC := Aside0.mk (blk_below GC.out hb); clear hb
  clear hd
  go_wp2_with fail
  refine (laws_at.calls _ _ m 2 3 t _ (Kd.C_below hr1'.out HL.out) hc1'.out h2'.out).mono ?_
  rintro e W6 ⟨rfl, hd⟩
  have hb := hd.below
  replace HL := Aside0.mk (below_step HL.out hb); replace GC := Aside0.mk (blk_below GC.out hb); clear hb
  clear hd
  have e0 : (t == 0) = false := beq_eq_false_iff_ne.mpr ht
  go_wp2_with (refine wpList_load_row rfl 40 _ rfl gc rfl 40 (cellsI (x ++ [p, q])) (0, 0) _ GC.out hu.out rfl (hz.out _ _ _ HX.out) ?_)
  refine (HT.out.seti _).mono ?_
  rintro e W8 ⟨rfl, hb⟩
  replace HL := Aside0.mk (below_step HL.out hb); replace GC := Aside0.mk (blk_below GC.out hb); clear hb
  go_wp2_with (first | (change wpList _ _ _ _ _ (W8.alloc (.cells (cellsI (List.replicate 16 0 ++ [0, 0])) 40)); refine wpList_store_row rfl 40 _ _ rfl W8.heap.size (cellsI (z ++ [p, q])) rfl rfl 40 _ (blk_new W8 (.cells (cellsI (List.replicate 16 0 ++ [0, 0])) 40)) (hz.out _ _ _ HT.out.len) (by rw [cpu_size _ HT.out.len]; rfl) (cellsI_all _) ?_; obtain ⟨h1, h2, h3⟩ := alloc_row W8 40 (List.replicate 16 0 ++ [0, 0]) (z ++ [p, q]); generalize (W8.alloc (.cells (cellsI (List.replicate 16 0 ++ [0, 0])) 40)).setRow W8.heap.size (cellsI (z ++ [p, q])) = W9 at *; replace HL := Aside0.mk (h3 _ _ HL.out.size HL.out); replace GC := Aside0.mk (h2 _ _ GC.out); have GX := Aside0.mk h1; clear h1 h2 h3; generalize W8.heap.size = gx at *) | (refine wpList_load_row rfl 40 _ rfl gc rfl 40 (cellsI (x ++ [p, q])) (0, 0) _ GC.out hu.out rfl (hz.out _ _ _ HX.out) ?_))
  refine (HT.out.sets _).mono ?_
  rintro e W10 ⟨rfl, hb⟩
  replace HL := Aside0.mk (below_step HL.out hb); replace GC := Aside0.mk (blk_below GC.out hb); replace GX := Aside0.mk (blk_below GX.out hb); clear hb
  go_wp2_with (first | (change wpList _ _ _ _ _ (W10.alloc (.cells (cellsI (List.replicate 16 0 ++ [0, 0])) 40)); refine wpList_store_row rfl 40 _ _ rfl W10.heap.size (cellsI (z ++ [p, q])) rfl rfl 40 _ (blk_new W10 (.cells (cellsI (List.replicate 16 0 ++ [0, 0])) 40)) (hz.out _ _ _ HT.out.len) (by rw [cpu_size _ HT.out.len]; rfl) (cellsI_all _) ?_; obtain ⟨h1, h2, h3⟩ := alloc_row W10 40 (List.replicate 16 0 ++ [0, 0]) (z ++ [p, q]); generalize (W10.alloc (.cells (cellsI (List.replicate 16 0 ++ [0, 0])) 40)).setRow W10.heap.size (cellsI (z ++ [p, q])) = W11 at *; replace HL := Aside0.mk (h3 _ _ HL.out.size HL.out); replace GC := Aside0.mk (h2 _ _ GC.out);replace GX := Aside0.mk (h2 _ _ GX.out); have GW := Aside0.mk h1; clear h1 h2 h3; generalize W10.heap.size = gw at *) | (refine wpList_load_row rfl 40 _ rfl gx rfl 40 (cellsI (z ++ [p, q])) (0, 0) _ GX.out hu.out rfl (hz.out _ _ _ HT.out.len) ?_))
  refine (impl_GetReg.calls z p q HT.out.len _ _ y 0 _ HT.out.get).mono ?_
  rintro e W12 ⟨rfl, hb⟩
  replace HL := Aside0.mk (below_step HL.out hb); replace GC := Aside0.mk (blk_below GC.out hb); replace GX := Aside0.mk (blk_below GX.out hb); replace GW := Aside0.mk (blk_below GW.out hb); clear hb
  go_wp2_with fail
  refine (impl_ZeroOf.calls v 1 y 0 _ ho'.out).mono ?_
  rintro e W13 ⟨rfl, hd⟩
  have hb := hd.below
  replace HL := Aside0.mk (below_step HL.out hb); replace GC := Aside0.mk (blk_below GC.out hb); replace GX := Aside0.mk (blk_below GX.out hb); replace GW := Aside0.mk (blk_below GW.out hb); clear hb
  clear hd
  go_upto_region 13 with (fail)
  refine wp_region_lit ?_
  refine wl_run rfl (.int .i64 0) rfl ?_
  simp only [Act.put, List.setIfInBounds_toArray, List.set_cons_zero, List.set_cons_succ]
  refine wl_run rfl (.bool false) rfl ?_
  simp only [Act.put, List.setIfInBounds_toArray, List.set_cons_zero, List.set_cons_succ]
  refine wl_run rfl (.bool false) rfl ?_
  simp only [Act.put, List.setIfInBounds_toArray, List.set_cons_zero, List.set_cons_succ]
  refine wl_load_row rfl 40 (.tmp 9) rfl gx rfl 40 (cellsI (z ++ [p, q])) (0, 0) _ GX.out hu.out rfl (hz.out _ _ _ HT.out.len) ?_
  simp only [Act.put, List.setIfInBounds_toArray, List.set_cons_zero, List.set_cons_succ]
  refine wl_load_row rfl 40 (.tmp 11) rfl gw rfl 40 (cellsI (z ++ [p, q])) (0, 0) _ GW.out hu.out rfl (hz.out _ _ _ HT.out.len) ?_
  simp only [Act.put, List.setIfInBounds_toArray, List.set_cons_zero, List.set_cons_succ]
  refine wl_run rfl (.bool false) (neq_cpu_op z p q HT.out.len _ _ (.tmp 81) (.tmp 82) rfl rfl rfl _) ?_
  simp only [Act.put, List.setIfInBounds_toArray, List.set_cons_zero, List.set_cons_succ]
  go_wp2_with (first | (refine wpList_load_row rfl 40 _ rfl gx rfl 40 (cellsI (z ++ [p, q])) (0, 0) _ GX.out hu.out rfl (hz.out _ _ _ HT.out.len) ?_))
  refine (impl_GetReg.calls z p q HT.out.len _ _ _ 0 _ HT.out.whole).mono ?_
  rintro e W14 ⟨rfl, hb⟩
  replace HL := Aside0.mk (below_step HL.out hb); replace GC := Aside0.mk (blk_below GC.out hb); replace GX := Aside0.mk (blk_below GX.out hb); replace GW := Aside0.mk (blk_below GW.out hb); clear hb
  have qj := (blk_cell GC.out j).trans (cpu_at x HX.out p q j HJ.out)
  go_wp2
  clear qj
  go_loopg [20] 16 (fun kq vi wr => ∃ i : Nat, vi = .int .i64 (i : Int) ∧ Aside0 (i + kq = 16) ∧ Aside0 (wr.heap[gc]? = some (.cells (cellsI (x ++ [p, q])) 40 (0, 0))) ∧ Aside0 (wr.heap[gx]? = some (.cells (cellsI (z ++ [p, q])) 40 (0, 0))) ∧ Aside0 (Below w.heap.size w wr))
  case atStart => exact ⟨0, rfl, ⟨rfl⟩, GC, GX, HL⟩
  case round =>
    clear GC GX GW HL
    obtain ⟨i, rfl, HI, GC, GX, HL⟩ := hrel
    cases gk with
    | zero =>
      have hi : i = 16 := by have := HI.out; omega
      subst hi
      have e1 : decide ((16 : Int) < 16) = false := rfl
      obtain ⟨t1, t2⟩ := HT.out.bits (by decide)
      go_wp2
      go_ret
      exact ⟨by first | rfl | rw [t2] | simp [t2], HL.out⟩
    | succ k1 =>
      have hi : i < 16 := by have := HI.out; omega
      have e1 : decide ((i : Int) < 16) = true := decide_eq_true (by omega)
      have i0 : (0 : Int) ≤ (i : Int) := by omega
      have i1 : (i : Int) < 16 := by omega
      by_cases hij : i = j
      · subst hij
        have e2 : ((i : Int) != (i : Int)) = false := by simp
        go_wp2
        go_quiet (fail)
        go_wp2
        go_roundg k1
        case measure => omega
        case rel => exact ⟨i + 1, by first | rfl | (simp; done) | go_num, ⟨by have := HI.out; omega⟩, ⟨blk_drewN GC.out _⟩, ⟨blk_drewN GX.out _⟩, ⟨pw_below_drewN HL.out _⟩⟩
      · have e2 : ((i : Int) != (j : Int)) = true := by simp; omega
        have q1 := (blk_cell GX.out i).trans (cpu_at z HT.out.len p q i hi)
        rw [HT.out.rest i hi hij] at q1
        have q2 := (blk_cell GC.out i).trans (cpu_at x HX.out p q i hi)
        clear hij
        go_wp2
        go_quiet (fail)
        go_wp2
        go_roundg k1
        case measure => omega
        case rel => exact ⟨i + 1, by first | rfl | (simp; done) | go_num, ⟨by have := HI.out; omega⟩, ⟨blk_drewN GC.out _⟩, ⟨blk_drewN GX.out _⟩, ⟨pw_below_drewN HL.out _⟩⟩
set_option maxHeartbeats 8000000 in
set_option maxRecDepth 100000 in
theorem laws_FnRegs.n1hi (k : Nat) (G : Int → Prop) (A0 : Option Addr) (c0 : Nat) (l : List Int) (A1 : Option Addr) (c1 : Nat) (m : List Int) (w : World) (v y : Int) (j : Nat) (hN : NextOK l) (hWd : WideOK l) (hF : FlagsOK k l G)
    (hr0 : Kd.C (Kd.int .u8) w A0 l.length l) (hc0 : l.length ≤ c0) (hr1 : Kd.C (Kd.int .u8) w A1 m.length m) (hc1 : m.length ≤ c1) (b0 : l.length ≤ 1048576) (b1 : m.length ≤ 1048576)
    (hv : spec_NumberOf.f m = some v) (hn : laws_sizeAt.f m 0 = some 1) (ho : impl_ZeroOf.f v 1 = some (y, 0)) (r' : Int) (h1 : laws_at.f m 1 16 = some r') (h2 : laws_at.f m 2 3 = some 0) (h3 : laws_at.f m 3 4 = some (j : Int)) (r1 : j < 4)
    (hall : ∀ (x : List Int) (p q : Int), x.length = 16 → (∀ n ∈ x, In64 n) → In64 p → G q → ∃ z : List Int, RegsTold x z p q (16 + (j : Int)) 1 v y j 65280 (wrap64 (y * 256))) :
    Calls Try.prog 8 #[.slice A0 l.length c0, .slice A1 m.length c1] w fun e w' => e = .returned (.bool true) ∧ Below w.heap.size w w' := by
  have hu := Aside0.mk Try.underlying40
  have hz : Aside0 (∀ (x : List Int) (p q : Int), x.length = 16 → (Try.prog.info? 40).map (·.size) = some (cellsI (x ++ [p, q])).size) := ⟨fun x p q hx => by rw [cpu_size x hx]; kernel_rfl⟩
  have HL := Aside0.mk (Below.refl w.heap.size w)
  have HJ := Aside0.mk (show j < 16 by omega)
  have hN' := Aside0.mk hN
  have hWd' := Aside0.mk hWd
  have hF' := Aside0.mk hF
  have hr0' := Aside0.mk hr0
  have hc0' := Aside0.mk hc0
  have hr1' := Aside0.mk hr1
  have hc1' := Aside0.mk hc1
  have hv' := Aside0.mk hv
  have hn' := Aside0.mk hn
  have ho' := Aside0.mk ho
  have h1' := Aside0.mk h1
  have hall' := Aside0.mk hall
  have h2' := Aside0.mk h2
  have h3' := Aside0.mk h3
  clear hN hWd hF hr0 hc0 hr1 hc1 hv hn ho h1 hall h2 h3
  have d0 : decide ((l.length : Int) > 1048576) = false := decide_eq_false (by omega)
  have d1 : decide ((m.length : Int) > 1048576) = false := decide_eq_false (by omega)
  have j0 : (0 : Int) ≤ (j : Int) := by omega
  have j1 : (j : Int) < 16 := by omega
  have hjm : (16 + (j : Int)) % 16 = (j : Int) := by omega
  have j2 : (j : Int) < 4 := by omega
  go_enter Try.func8, Try.ntmps8
  go_wp2_with fail
  refine (spec_CpuDrawn.calls k G A0 c0 l _ hN'.out hWd'.out hF'.out hr0'.out hc0'.out).mono ?_
  rintro e W1 ⟨⟨x, p, q, rfl, hx, hr, hp, hq⟩, hb⟩
  obtain ⟨z, HT⟩ := hall'.out x p q hx hr hp hq
  replace HT := Aside0.mk HT
  replace HL := Aside0.mk (below_step HL.out hb)
  have HX := Aside0.mk hx
  clear hx hr hp hq hb hall'
  go_wp2_with ((change wpList _ _ _ _ _ (W1.alloc (.cells (cellsI (List.replicate 16 0 ++ [0, 0])) 40)); refine wpList_store_row rfl 40 _ _ rfl W1.heap.size (cellsI (x ++ [p, q])) rfl rfl 40 _ (blk_new W1 (.cells (cellsI (List.replicate 16 0 ++ [0, 0])) 40)) (hz.out _ _ _ HX.out) (by rw [cpu_size _ HX.out]; rfl) (cellsI_all _) ?_; obtain ⟨h1, h2, h3⟩ := alloc_row W1 40 (List.replicate 16 0 ++ [0, 0]) (x ++ [p, q]); generalize (W1.alloc (.cells (cellsI (List.replicate 16 0 ++ [0, 0])) 40)).setRow W1.heap.size (cellsI (x ++ [p, q])) = W2 at *; replace HL := Aside0.mk (h3 _ _ HL.out.size HL.out);  have GC := Aside0.mk h1; clear h1 h2 h3; generalize W1.heap.size = gc at *))
  refine (spec_NumberOf.calls _ _ m v _ (Kd.C_below hr1'.out HL.out) hc1'.out hv'.out).mono ?_
  rintro e W3 ⟨rfl, hb⟩
  replace HL := Aside0.mk (below_step HL.out hb); replace GC := Aside0.mk (blk_below GC.out hb); clear hb
  go_wp2_with fail
  refine (laws_sizeAt.calls _ _ m 0 1 _ (Kd.C_below hr1'.out HL.out) hc1'.out hn'.out).mono ?_
  rintro e W4 ⟨rfl, hb⟩
  replace HL := Aside0.mk (below_step HL.out hb); replace GC := Aside0.mk (blk_below GC.out hb); clear hb
  go_wp2_with fail
  refine (laws_at.calls _ _ m 1 16 r' _ (Kd.C_below hr1'.out HL.out) hc1'.out h1'.out).mono ?_
  rintro e W5 ⟨rfl, hd⟩
  have hb := hd.below
  replace HL := Aside0.mk (below_step HL.out hb); replace GC := Aside0.mk (blk_below GC.out hb); clear hb
  clear hd
  go_wp2_with fail
  refine (laws_at.calls _ _ m 2 3 0 _ (Kd.C_below hr1'.out HL.out) hc1'.out h2'.out).mono ?_
  rintro e W6 ⟨rfl, hd⟩
  have hb := hd.below
  replace HL := Aside0.mk (below_step HL.out hb); replace GC := Aside0.mk (blk_below GC.out hb); clear hb
  clear hd
  go_wp2_with fail
  refine (laws_at.calls _ _ m 3 4 (j : Int) _ (Kd.C_below hr1'.out HL.out) hc1'.out h3'.out).mono ?_
  rintro e W7 ⟨rfl, hd⟩
  have hb := hd.below
  replace HL := Aside0.mk (below_step HL.out hb); replace GC := Aside0.mk (blk_below GC.out hb); clear hb
  clear hd
  go_wp2_with (refine wpList_load_row rfl 40 _ rfl gc rfl 40 (cellsI (x ++ [p, q])) (0, 0) _ GC.out hu.out rfl (hz.out _ _ _ HX.out) ?_)
  refine (HT.out.seti _).mono ?_
  rintro e W8 ⟨rfl, hb⟩
  replace HL := Aside0.mk (below_step HL.out hb); replace GC := Aside0.mk (blk_below GC.out hb); clear hb
  go_wp2_with (first | (change wpList _ _ _ _ _ (W8.alloc (.cells (cellsI (List.replicate 16 0 ++ [0, 0])) 40)); refine wpList_store_row rfl 40 _ _ rfl W8.heap.size (cellsI (z ++ [p, q])) rfl rfl 40 _ (blk_new W8 (.cells (cellsI (List.replicate 16 0 ++ [0, 0])) 40)) (hz.out _ _ _ HT.out.len) (by rw [cpu_size _ HT.out.len]; rfl) (cellsI_all _) ?_; obtain ⟨h1, h2, h3⟩ := alloc_row W8 40 (List.replicate 16 0 ++ [0, 0]) (z ++ [p, q]); generalize (W8.alloc (.cells (cellsI (List.replicate 16 0 ++ [0, 0])) 40)).setRow W8.heap.size (cellsI (z ++ [p, q])) = W9 at *; replace HL := Aside0.mk (h3 _ _ HL.out.size HL.out); replace GC := Aside0.mk (h2 _ _ GC.out); have GX := Aside0.mk h1; clear h1 h2 h3; generalize W8.heap.size = gx at *) | (refine wpList_load_row rfl 40 _ rfl gc rfl 40 (cellsI (x ++ [p, q])) (0, 0) _ GC.out hu.out rfl (hz.out _ _ _ HX.out) ?_))
  refine (HT.out.sets _).mono ?_
  rintro e W10 ⟨rfl, hb⟩
  replace HL := Aside0.mk (below_step HL.out hb); replace GC := Aside0.mk (blk_below GC.out hb); replace GX := Aside0.mk (blk_below GX.out hb); clear hb
  go_wp2_with (first | (change wpList _ _ _ _ _ (W10.alloc (.cells (cellsI (List.replicate 16 0 ++ [0, 0])) 40)); refine wpList_store_row rfl 40 _ _ rfl W10.heap.size (cellsI (z ++ [p, q])) rfl rfl 40 _ (blk_new W10 (.cells (cellsI (List.replicate 16 0 ++ [0, 0])) 40)) (hz.out _ _ _ HT.out.len) (by rw [cpu_size _ HT.out.len]; rfl) (cellsI_all _) ?_; obtain ⟨h1, h2, h3⟩ := alloc_row W10 40 (List.replicate 16 0 ++ [0, 0]) (z ++ [p, q]); generalize (W10.alloc (.cells (cellsI (List.replicate 16 0 ++ [0, 0])) 40)).setRow W10.heap.size (cellsI (z ++ [p, q])) = W11 at *; replace HL := Aside0.mk (h3 _ _ HL.out.size HL.out); replace GC := Aside0.mk (h2 _ _ GC.out);replace GX := Aside0.mk (h2 _ _ GX.out); have GW := Aside0.mk h1; clear h1 h2 h3; generalize W10.heap.size = gw at *) | (refine wpList_load_row rfl 40 _ rfl gx rfl 40 (cellsI (z ++ [p, q])) (0, 0) _ GX.out hu.out rfl (hz.out _ _ _ HT.out.len) ?_))
  refine (impl_GetReg.calls z p q HT.out.len _ _ y 0 _ HT.out.get).mono ?_
  rintro e W12 ⟨rfl, hb⟩
  replace HL := Aside0.mk (below_step HL.out hb); replace GC := Aside0.mk (blk_below GC.out hb); replace GX := Aside0.mk (blk_below GX.out hb); replace GW := Aside0.mk (blk_below GW.out hb); clear hb
  go_wp2_with fail
  refine (impl_ZeroOf.calls v 1 y 0 _ ho'.out).mono ?_
  rintro e W13 ⟨rfl, hd⟩
  have hb := hd.below
  replace HL := Aside0.mk (below_step HL.out hb); replace GC := Aside0.mk (blk_below GC.out hb); replace GX := Aside0.mk (blk_below GX.out hb); replace GW := Aside0.mk (blk_below GW.out hb); clear hb
  clear hd
  go_upto_region 13 with (fail)
  refine wp_region_lit ?_
  refine wl_run rfl (.int .i64 0) rfl ?_
  simp only [Act.put, List.setIfInBounds_toArray, List.set_cons_zero, List.set_cons_succ]
  refine wl_run rfl (.bool false) rfl ?_
  simp only [Act.put, List.setIfInBounds_toArray, List.set_cons_zero, List.set_cons_succ]
  refine wl_run rfl (.bool false) rfl ?_
  simp only [Act.put, List.setIfInBounds_toArray, List.set_cons_zero, List.set_cons_succ]
  refine wl_load_row rfl 40 (.tmp 9) rfl gx rfl 40 (cellsI (z ++ [p, q])) (0, 0) _ GX.out hu.out rfl (hz.out _ _ _ HT.out.len) ?_
  simp only [Act.put, List.setIfInBounds_toArray, List.set_cons_zero, List.set_cons_succ]
  refine wl_load_row rfl 40 (.tmp 11) rfl gw rfl 40 (cellsI (z ++ [p, q])) (0, 0) _ GW.out hu.out rfl (hz.out _ _ _ HT.out.len) ?_
  simp only [Act.put, List.setIfInBounds_toArray, List.set_cons_zero, List.set_cons_succ]
  refine wl_run rfl (.bool false) (neq_cpu_op z p q HT.out.len _ _ (.tmp 81) (.tmp 82) rfl rfl rfl _) ?_
  simp only [Act.put, List.setIfInBounds_toArray, List.set_cons_zero, List.set_cons_succ]
  go_wp2_with (first | (refine wpList_load_row rfl 40 _ rfl gx rfl 40 (cellsI (z ++ [p, q])) (0, 0) _ GX.out hu.out rfl (hz.out _ _ _ HT.out.len) ?_))
  refine (impl_GetReg.calls z p q HT.out.len _ _ _ 0 _ HT.out.whole).mono ?_
  rintro e W14 ⟨rfl, hb⟩
  replace HL := Aside0.mk (below_step HL.out hb); replace GC := Aside0.mk (blk_below GC.out hb); replace GX := Aside0.mk (blk_below GX.out hb); replace GW := Aside0.mk (blk_below GW.out hb); clear hb
  have qj := (blk_cell GC.out j).trans (cpu_at x HX.out p q j HJ.out)
  go_wp2
  clear qj
  go_loopg [20] 16 (fun kq vi wr => ∃ i : Nat, vi = .int .i64 (i : Int) ∧ Aside0 (i + kq = 16) ∧ Aside0 (wr.heap[gc]? = some (.cells (cellsI (x ++ [p, q])) 40 (0, 0))) ∧ Aside0 (wr.heap[gx]? = some (.cells (cellsI (z ++ [p, q])) 40 (0, 0))) ∧ Aside0 (Below w.heap.size w wr))
  case atStart => exact ⟨0, rfl, ⟨rfl⟩, GC, GX, HL⟩
  case round =>
    clear GC GX GW HL
    obtain ⟨i, rfl, HI, GC, GX, HL⟩ := hrel
    cases gk with
    | zero =>
      have hi : i = 16 := by have := HI.out; omega
      subst hi
      have e1 : decide ((16 : Int) < 16) = false := rfl
      obtain ⟨t1, t2⟩ := HT.out.bits (by decide)
      go_wp2
      go_ret
      exact ⟨by first | rfl | rw [t2] | simp [t2], HL.out⟩
    | succ k1 =>
      have hi : i < 16 := by have := HI.out; omega
      have e1 : decide ((i : Int) < 16) = true := decide_eq_true (by omega)
      have i0 : (0 : Int) ≤ (i : Int) := by omega
      have i1 : (i : Int) < 16 := by omega
      by_cases hij : i = j
      · subst hij
        have e2 : ((i : Int) != (i : Int)) = false := by simp
        go_wp2
        go_quiet (fail)
        go_wp2
        go_roundg k1
        case measure => omega
        case rel => exact ⟨i + 1, by first | rfl | (simp; done) | go_num, ⟨by have := HI.out; omega⟩, ⟨blk_drewN GC.out _⟩, ⟨blk_drewN GX.out _⟩, ⟨pw_below_drewN HL.out _⟩⟩
      · have e2 : ((i : Int) != (j : Int)) = true := by simp; omega
        have q1 := (blk_cell GX.out i).trans (cpu_at z HT.out.len p q i hi)
        rw [HT.out.rest i hi hij] at q1
        have q2 := (blk_cell GC.out i).trans (cpu_at x HX.out p q i hi)
        clear hij
        go_wp2
        go_quiet (fail)
        go_wp2
        go_roundg k1
        case measure => omega
        case rel => exact ⟨i + 1, by first | rfl | (simp; done) | go_num, ⟨by have := HI.out; omega⟩, ⟨blk_drewN GC.out _⟩, ⟨blk_drewN GX.out _⟩, ⟨pw_below_drewN HL.out _⟩⟩


end Go.Proofs.Ytgipadecllofkaa.PFnRegs
