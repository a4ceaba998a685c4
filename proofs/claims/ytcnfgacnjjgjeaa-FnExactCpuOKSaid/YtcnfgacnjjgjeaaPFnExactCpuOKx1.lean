-- Written for this claim by the session's own program, out of the translation. Not trusted: Lean checks it.
import Derived.Test.YtcnfgacnjjgjeaaPFnExactCpuOKx0
namespace Go.Proofs.Ytcnfgacnjjgjeaa.PFnExactCpuOK
open Go.RowKit Go.Proofs.YtcnfgacnjjgjeaaW.PrintWords Go.Proofs.YtcnfgacnjjgjeaaW.PrintLast Go.Proofs.YtcnfgacnjjgjeaaW.PrintMore
attribute [local go_sem] max2_int min2_int max_two min_two max_three min_three max_four min_four   -- for this text's walks alone
set_option linter.unusedVariables false
set_option linter.unusedSimpArgs false

/-! ### spec_l06Flags: function 38 -/
def spec_l06Flags.f (a0 : Int) : Option (Bool) := if a0 ≥ 0 then (some ((Go.bits .and .i64 a0 2245) == a0)) else (some false)
set_option maxHeartbeats 8000000 in
set_option maxRecDepth 100000 in
theorem spec_l06Flags.calls (a0 : Int) (r : Bool) (w : World) (h : spec_l06Flags.f a0 = some r) :
    Calls Try.prog 38 #[.int .i64 a0] w fun e w' => e = .returned (.bool r) ∧ Drawn0 w w' := by
  have H : (if a0 ≥ 0 then (some ((Go.bits .and .i64 a0 2245) == a0)) else (some false)) = some r := h
  clear h
  by_cases c2 : a0 ≥ 0
  · rw [if_pos c2] at H
    have c2b0 : decide (0 ≤ a0) = true := decide_eq_true c2
    clear c2
    obtain rfl := Option.some.inj H
    go_enter Try.func38, Try.ntmps38
    go_wp2
    go_ret
    exact ⟨by first | rfl | (simp; done) | (simp [*]; done), by repeat (first | exact Drawn0.refl _ | apply Drawn0.step)⟩
  · rw [if_neg c2] at H
    have c2b0 : decide (0 ≤ a0) = false := decide_eq_false c2
    clear c2
    obtain rfl := Option.some.inj H
    go_enter Try.func38, Try.ntmps38
    go_wp2
    go_ret
    exact ⟨by first | rfl | (simp; done) | (simp [*]; done), by repeat (first | exact Drawn0.refl _ | apply Drawn0.step)⟩

/-! ### spec_CpuOK: function 17 -/
set_option maxHeartbeats 4000000 in
set_option maxRecDepth 100000 in
theorem spec_CpuOK.calls (x : List Int) (p q : Int) (hx : x.length = 16) (r : Bool) (w : World) (h : spec_l06Flags.f q = some r) :
    Calls Try.prog 17 #[.agg (cellsI (x ++ [p, q]))] w fun e w' => e = .returned (.bool r) ∧ Below w.heap.size w w' := by
  have hu3 := Try.underlying28
  have h1 := blk_new w (.cells (cellsI (x ++ [p, q])) 28)
  have c2 := (blk_cell h1 17).trans (cpu_get17 x hx p q)
  have HB := Aside0.mk (below_alloc (Below.refl w.heap.size w) (.cells (cellsI (x ++ [p, q])) 28))
  have HL := Aside0.mk h
  clear h h1
  go_enter Try.func17, Try.ntmps17
  go_wp2_with (go_at_call 38; refine (spec_l06Flags.calls q r _ HL.out).mono ?_; rintro e w1 ⟨rfl, hb⟩; have hB := Aside0.mk (below_step HB.out hb.below))
  go_ret
  exact ⟨rfl, hB.out⟩


/-! ### laws_toIntA16: function 39 -/
set_option maxHeartbeats 4000000 in
set_option maxRecDepth 100000 in
theorem laws_toIntA16.calls (x : List Int) (hx : x.length = 16) (w : World) :
    Calls Try.prog 39 #[.agg (cellsI x)] w fun e w' => e = .returned (.agg (cellsI x)) ∧ Below w.heap.size w w' := by
  have hu := Try.underlying24
  go_enter Try.func39, Try.ntmps39
  go_wp2
  have hz : ∀ cs : List Int, cs.length = 16 → (Try.prog.info? 24).map (·.size) = some (cellsI cs).size := fun cs h => by rw [cellsI_size, h]; kernel_rfl
  have HZ := Aside0.mk hz
  have HH : Aside0 (A16Holds w (((w.alloc (.cells (cellsI x) 24)).alloc (.cells (cellsI (List.replicate 16 0)) 24)).alloc (.cells (cellsI (partI x 0)) 24)) 24 x (partI x 0)) :=
    ⟨A16Holds.start w 24 x (partI x 0)⟩
  have HU := Aside0.mk hu
  clear hz
  go_loopg [4] 16 (fun kq va w' => ∃ i : Nat, va = .int .i64 (i : Int) ∧ Aside0 (i + kq = 16) ∧ Aside0 (A16Holds w w' 24 x (partI x i)))
  case atStart => exact ⟨0, rfl, ⟨rfl⟩, HH⟩
  case round =>
    clear HH
    obtain ⟨i, rfl, HI, HH⟩ := hrel
    cases gk with
    | zero =>
      have hi : i = 16 := by have := HI.out; omega
      subst hi
      have d0 : decide ((16 : Int) < 16) = false := rfl
      have hp : partI x 16 = x := by unfold partI; rw [List.take_of_length_le (by omega)]; simp
      rw [hp] at HH
      have HS : Aside0 (A16Holds2 w (wr.setRow (w.heap.size + 1) (cellsI x)) 24 x) := ⟨setRow_heap _ _ _ _ _ _ HH.out.b2, belowRow HH.out.bel (Nat.le_succ _) _⟩
      go_wp2_with (refine wpList_load_row rfl 24 _ rfl (w.heap.size + 1 + 1) rfl 24 (cellsI x) (0, 0) _ HH.out.b3 HU.out rfl (HZ.out x hx) ?_; refine wpList_store_row rfl 24 _ _ rfl (w.heap.size + 1) (cellsI x) rfl rfl 24 _ HH.out.b2 (HZ.out x hx) (by rw [cellsI_size, cellsI_size, hx]; rfl) (cellsI_all x) ?_)
      refine bodyPost_ret (results_cell_row rfl _ _ (w.heap.size + 1) 24 (cellsI x) (0, 0) _ rfl HS.out.b2 HU.out rfl (HZ.out x hx)) rfl ?_
      exact ⟨rfl, HS.out.bel⟩
    | succ k1 =>
      have hi : i < 16 := by have := HI.out; omega
      have d0 : decide ((i : Int) < 16) = true := decide_eq_true (by omega)
      have i0 : (0 : Int) ≤ (i : Int) := by omega
      have i1 : (i : Int) < 16 := by omega
      have hl := partI_length hx (i := i) (by omega)
      have hc1 := (blk_cell HH.out.b1 i).trans (cellsI_get x i (by omega))
      have hc3 := (blk_cell HH.out.b3 i).trans (cellsI_get _ i (by omega))
      have hf3 := blk_frozen HH.out.b3 i
      have HN : Aside0 (A16Holds w (wr.setCell ⟨w.heap.size + 1 + 1, i, none⟩ (.int .i64 (rdOf 0 x i))) 24 x (partI x (i + 1))) := ⟨HH.out.step i _ (partI_step hx hi)⟩
      go_wp2
      go_roundg k1
      case measure => omega
      case rel => exact ⟨i + 1, by first | rfl | (simp; done) | go_num, ⟨by have := HI.out; omega⟩, HN⟩


/-! ### laws_toCpu: function 18 -/
set_option maxHeartbeats 4000000 in
set_option maxRecDepth 100000 in
theorem laws_toCpu.calls (x : List Int) (p q : Int) (hx : x.length = 16) (w : World) :
    Calls Try.prog 18 #[.agg (cellsI (x ++ [p, q]))] w fun e w' => e = .returned (.agg (cellsI (x ++ [p, q]))) ∧ Below w.heap.size w w' := by
  have hu := Aside0.mk Try.underlying24
  have hu2 := Try.underlying26
  have hu3 := Try.underlying28
  have hz : Aside0 (∀ cs : List Int, cs.length = 16 → (Try.prog.info? 24).map (·.size) = some (cellsI cs).size) := ⟨fun cs h => by rw [cellsI_size, h]; kernel_rfl⟩
  have hz3 : Aside0 (∀ a b, (Try.prog.info? 28).map (·.size) = some (cellsI (x ++ [a, b])).size) := ⟨fun a b => by rw [cpu_size x hx]; kernel_rfl⟩
  have HH := Aside0.mk (CpuHolds.start w 26 28 (x ++ [p, q]) (List.replicate 16 0 ++ [0, 0]))
  go_enter Try.func18, Try.ntmps18
  go_wp2_with (first | (refine wpList_load_mid rfl 24 _ rfl w.heap.size 0 rfl (x.map (fun n => Value.int .i64 n)) _ (range_of HH.out.b1) hu.out rfl (by have := hz.out x hx; simpa [cellsI] using this) ?_) | (go_at_call 39; refine (laws_toIntA16.calls x hx _).mono ?_; rintro e w1 ⟨rfl, hb⟩; have H1 := Aside0.mk (HH.out.below hb); have H2 := Aside0.mk (H1.out.puts x); have E0 := Aside0.mk (setsI_all x hx 0 0); rw [E0.out] at H2; have H3 := Aside0.mk (H2.out.step 16 p (cpu_set16 x hx 0 0 p)); have H4 := Aside0.mk (H3.out.step 17 q (cpu_set17 x hx p 0 q)); have c1 := (blk_cell H2.out.b1 16).trans (cpu_get16 x hx p q); have c2 := (blk_cell H2.out.b1 17).trans (cpu_get17 x hx p q); have c3 := (blk_cell H2.out.b3 16).trans (cpu_get16 x hx 0 0); have c4 := (blk_cell H2.out.b3 17).trans (cpu_get17 x hx 0 0); have f3 := blk_frozen H2.out.b3 16; have f4 := blk_frozen H2.out.b3 17; clear hb) | (refine wpList_store_mid rfl 24 _ _ rfl (w.heap.size + 1 + 1) 0 (cellsI x) rfl rfl (there_of H1.out.b3 (by rw [cellsI_size, cellsI_size, hx]; decide)) (hz.out x hx) (cellsI_all x) ?_; generalize w1.setCells (w.heap.size + 1 + 1) 0 (cellsI x).toList = w2 at *) | (refine wpList_load_row rfl 28 _ rfl (w.heap.size + 1 + 1) rfl 28 (cellsI (x ++ [p, q])) (0, 0) _ H4.out.b3 hu3 rfl (hz3.out p q) ?_) | (refine wpList_store_row rfl 28 _ _ rfl (w.heap.size + 1) (cellsI (x ++ [p, q])) rfl rfl 28 _ H4.out.b2 (hz3.out p q) (by rw [cellsI_size, cpu_size x hx]; rfl) (cellsI_all _) ?_))
  have HS : Aside0 (A16Holds2 w (((w2.setCell ⟨w.heap.size + 1 + 1, 16, none⟩ (.int .i64 p)).setCell ⟨w.heap.size + 1 + 1, 17, none⟩ (.int .i64 q)).setRow (w.heap.size + 1) (cellsI (x ++ [p, q]))) 28 (x ++ [p, q])) := ⟨setRow_heap _ _ _ _ _ _ H4.out.b2, belowRow H4.out.bel (Nat.le_succ _) _⟩
  refine bodyPost_ret (results_cell_row rfl _ _ (w.heap.size + 1) 28 (cellsI (x ++ [p, q])) (0, 0) _ rfl HS.out.b2 hu3 rfl (hz3.out p q)) rfl ?_
  exact ⟨rfl, HS.out.bel⟩


/-! ### impl_areFlags: function 40 -/
def impl_areFlags.f (a0 : Int) : Option (Bool) := some ((Go.bits .andNot .i64 a0 2245) == 0)
set_option maxHeartbeats 8000000 in
set_option maxRecDepth 100000 in
theorem impl_areFlags.calls (a0 : Int) (r : Bool) (w : World) (h : impl_areFlags.f a0 = some r) :
    Calls Try.prog 40 #[.int .i64 a0] w fun e w' => e = .returned (.bool r) ∧ Drawn0 w w' := by
  have H : (some ((Go.bits .andNot .i64 a0 2245) == 0)) = some r := h
  clear h
  obtain rfl := Option.some.inj H
  go_enter Try.func40, Try.ntmps40
  go_wp2
  go_ret
  exact ⟨by first | rfl | (simp; done) | (simp [*]; done), by repeat (first | exact Drawn0.refl _ | apply Drawn0.step)⟩

/-! ### impl_CpuOK: function 19 -/
set_option maxHeartbeats 4000000 in
set_option maxRecDepth 100000 in
theorem impl_CpuOK.calls (x : List Int) (p q : Int) (hx : x.length = 16) (r : Bool) (w : World) (h : impl_areFlags.f q = some r) :
    Calls Try.prog 19 #[.agg (cellsI (x ++ [p, q]))] w fun e w' => e = .returned (.bool r) ∧ Below w.heap.size w w' := by
  have hu3 := Try.underlying28
  have h1 := blk_new w (.cells (cellsI (x ++ [p, q])) 28)
  have c2 := (blk_cell h1 17).trans (cpu_get17 x hx p q)
  have HB := Aside0.mk (below_alloc (Below.refl w.heap.size w) (.cells (cellsI (x ++ [p, q])) 28))
  have HL := Aside0.mk h
  clear h h1
  go_enter Try.func19, Try.ntmps19
  go_wp2_with (go_at_call 40; refine (impl_areFlags.calls q r _ HL.out).mono ?_; rintro e w1 ⟨rfl, hb⟩; have hB := Aside0.mk (below_step HB.out hb.below))
  go_ret
  exact ⟨rfl, hB.out⟩


/-! ### laws_FnExactCpuOK: function 5 -/
set_option maxHeartbeats 4000000 in
set_option maxRecDepth 100000 in
theorem laws_FnExactCpuOK.calls (x : List Int) (p q : Int) (hx : x.length = 16) (b : Bool) (w : World) (h1 : spec_l06Flags.f q = some b) (h2 : impl_areFlags.f q = some b) :
    Calls Try.prog 5 #[.agg (cellsI (x ++ [p, q]))] w fun e w' => e = .returned (.bool true) ∧ Below w.heap.size w w' := by
  have hu := Try.underlying26
  have hz : Aside0 ((Try.prog.info? 26).map (·.size) = some (cellsI (x ++ [p, q])).size) := ⟨by rw [cpu_size x hx]; kernel_rfl⟩
  have HB := Aside0.mk (blk_new w (.cells (cellsI (x ++ [p, q])) 26))
  have HL := Aside0.mk (below_alloc (Below.refl w.heap.size w) (.cells (cellsI (x ++ [p, q])) 26))
  have H1 := Aside0.mk h1
  have H2 := Aside0.mk h2
  clear h1 h2
  go_enter Try.func5, Try.ntmps5
  cases b
  all_goals go_wp2_with (first | (refine wpList_load_row rfl 26 _ rfl w.heap.size rfl 26 (cellsI (x ++ [p, q])) (0, 0) _ HB.out hu rfl hz.out ?_) | (go_at_call 18; refine (laws_toCpu.calls x p q hx _).mono ?_; rintro e w1 ⟨rfl, hb⟩; replace HB := Aside0.mk (blk_below HB.out hb); replace HL := Aside0.mk (below_step HL.out hb); clear hb) | (go_at_call 17; refine (spec_CpuOK.calls x p q hx _ _ H1.out).mono ?_; rintro e w1 ⟨rfl, hb⟩; replace HB := Aside0.mk (blk_below HB.out hb); replace HL := Aside0.mk (below_step HL.out hb); clear hb) | (go_at_call 19; refine (impl_CpuOK.calls x p q hx _ _ H2.out).mono ?_; rintro e w1 ⟨rfl, hb⟩; replace HB := Aside0.mk (blk_below HB.out hb); replace HL := Aside0.mk (below_step HL.out hb); clear hb))
  all_goals go_ret
  all_goals exact ⟨rfl, HL.out⟩


end Go.Proofs.Ytcnfgacnjjgjeaa.PFnExactCpuOK
