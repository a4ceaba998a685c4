-- Written for this claim by the session's own program, out of the translation. Not trusted: Lean checks it.
import Derived.Test.YtkaffpbclanoeaaDoorPFnNamesx0
import Derived.Test.YtkaffpbclanoeaaDoorPFnNamesx3
namespace Go.Proofs.YtkaffpbclanoeaaDoor.PFnNames
open Go.RowKit Go.Proofs.YtkaffpbclanoeaaDoorW.PrintWords Go.Proofs.YtkaffpbclanoeaaDoorW.PrintLast Go.Proofs.YtkaffpbclanoeaaDoorW.PrintMore
attribute [local go_sem] max2_int min2_int max_two min_two max_three min_three max_four min_four   -- for this text's walks alone
set_option linter.unusedVariables false
set_option linter.unusedSimpArgs false

/-! ### spec_l03First: function 51 -/
theorem shape_five {W : World} {g T : Nat} {z0 z1 z2 z3 z4 a b c d e : Value} (h : W.heap[g]? = some (.cells #[z0, z1, z2, z3, z4] T (0, 0))) :
    (((((W.setCell ⟨g, 0, none⟩ a).setCell ⟨g, 1, none⟩ b).setCell ⟨g, 2, none⟩ c).setCell ⟨g, 3, none⟩ d).setCell ⟨g, 4, none⟩ e).heap[g]? = some (.cells #[a, b, c, d, e] T (0, 0)) :=
  blk_put (cs := #[a, b, c, d, z4]) (blk_put (cs := #[a, b, c, z3, z4]) (blk_put (cs := #[a, b, z2, z3, z4]) (blk_put (cs := #[a, z1, z2, z3, z4]) (blk_put (cs := #[z0, z1, z2, z3, z4]) h 0 _ rfl) 1 _ rfl) 2 _ rfl) 3 _ rfl) 4 _ rfl
def spec_l03First.tab : List (Int × (Int × Int × Int × Bool × Int)) := [(99, (27, 17, 0, false, 4)), (104, (29, 16, 0, false, 0)), (106, (29, 15, 0, false, 0)), (128, (0, 5, 1, true, 0)), (129, (0, 5, 1, false, 0)), (131, (0, 4, 1, false, 0)), (132, (10, 1, 0, true, 0)), (133, (10, 1, 0, false, 0)), (134, (28, 1, 0, true, 0)), (135, (28, 1, 0, false, 0)), (136, (9, 1, 0, true, 0)), (137, (9, 1, 0, false, 0)), (138, (9, 2, 0, true, 0)), (139, (9, 2, 0, false, 0)), (141, (25, 2, 0, false, 0)), (143, (0, 6, 6, false, 0)), (144, (37, 14, 0, false, 0)), (152, (39, 14, 0, false, 0)), (153, (40, 14, 0, false, 0)), (164, (42, 14, 0, true, 0)), (168, (10, 3, 0, true, 0)), (169, (10, 3, 0, false, 0)), (170, (41, 14, 0, true, 0)), (192, (0, 11, 2, true, 0)), (193, (0, 11, 2, false, 0)), (195, (34, 14, 0, false, 0)), (198, (0, 5, 7, true, 0)), (199, (0, 5, 7, false, 0)), (205, (44, 15, 0, false, 0)), (208, (0, 12, 2, true, 0)), (209, (0, 12, 2, false, 0)), (210, (0, 13, 2, true, 0)), (211, (0, 13, 2, false, 0)), (232, (31, 10, 0, false, 0)), (233, (32, 10, 0, false, 0)), (235, (32, 9, 0, false, 0)), (244, (38, 14, 0, false, 0)), (246, (0, 6, 3, true, 0)), (247, (0, 6, 3, false, 0)), (254, (0, 6, 4, true, 0)), (255, (0, 6, 5, false, 0))]
/-- The shape of a byte. -/
def spec_l03First.t (b : Int) : Int × Int × Int × Bool × Int :=
  if b < 64 ∧ b % 8 < 6 then (b / 8 + 1, b % 8 / 2 + 1, 0, b % 2 == 0, 0)
  else if 80 ≤ b ∧ b ≤ 87 then (29, 7, 0, false, 0)
  else if 88 ≤ b ∧ b ≤ 95 then (30, 7, 0, false, 0)
  else if 112 ≤ b ∧ b ≤ 127 then (33, 9, 0, false, 0)
  else if 176 ≤ b ∧ b ≤ 191 then (9, 8, 0, decide (b < 184), 0)
  else (spec_l03First.tab.lookup b).getD (0, 0, 0, false, 0)
def spec_l03First.f (b : Int) : Option (Int × Int × Int × Bool × Int) := if 0 ≤ b ∧ b ≤ 255 then some (spec_l03First.t b) else none
theorem spec_l03First.in_ (b lo hi : Int) (W : World) : Calls Tryd.prog 36 #[.int .i64 b, .int .i64 lo, .int .i64 hi] W fun e w' => e = .returned (.bool (decide (lo ≤ b ∧ b ≤ hi))) ∧ Drawn0 W w' :=
  spec_l01In.calls b lo hi _ W (by
    unfold spec_l01In.f
    by_cases a : b ≥ lo <;> by_cases c : b ≤ hi <;> simp [a, c] <;> omega)
set_option maxHeartbeats 4000000 in
set_option maxRecDepth 100000 in
theorem spec_l03First.low0 (b : Int) (h0 : 0 ≤ b) (h1 : b < 64) (hj : b % 8 = 0) (w : World) :
    Calls Tryd.prog 51 #[.int .i64 b] w fun e w' => e = .returned (.agg #[.int .i64 (b / 8 + 1), .int .i64 (1), .int .i64 (0), .bool (b % 2 == 0), .int .i64 (0)]) ∧ Below w.heap.size w w' := by
  have d0 : decide (b < 64) = true := decide_eq_true h1
  have d1 : decide (b % 8 < 6) = true := decide_eq_true (by omega)
  go_enter Tryd.func51, Tryd.ntmps51
  go_wp2_with (first | (go_at_call 36; refine (spec_l03First.in_ b _ _ _).mono ?_; rintro e w1 ⟨rfl, ⟨nd, rfl⟩⟩; first | rw [C1.out] | rw [C2.out] | rw [C3.out] | rw [C4.out]))
  refine bodyPost_ret (results_cell_row rfl _ _ w.heap.size 33 #[.int .i64 (b / 8 + 1), .int .i64 (1), .int .i64 (0), .bool (b % 2 == 0), .int .i64 (0)] (0, 0) _ rfl (by repeat (first | (with_reducible first | exact blk_new _ _ | refine blk_drewN ?_ _ | refine blk_alloc ?_ _ | (refine blk_far ?_ (Nat.ne_of_lt (Nat.lt_succ_self _)) _)) | apply shape_five)) Tryd.underlying33 rfl (by kernel_rfl)) rfl ?_
  exact ⟨rfl, by repeat (with_reducible first | refine below_set ?_ (Nat.le_refl _) | refine below_set ?_ (Nat.le_succ _) | exact Below.refl _ _ | apply below_alloc | apply pw_below_drewN | apply below_drew1)⟩
set_option maxHeartbeats 4000000 in
set_option maxRecDepth 100000 in
theorem spec_l03First.low1 (b : Int) (h0 : 0 ≤ b) (h1 : b < 64) (hj : b % 8 = 1) (w : World) :
    Calls Tryd.prog 51 #[.int .i64 b] w fun e w' => e = .returned (.agg #[.int .i64 (b / 8 + 1), .int .i64 (1), .int .i64 (0), .bool (b % 2 == 0), .int .i64 (0)]) ∧ Below w.heap.size w w' := by
  have d0 : decide (b < 64) = true := decide_eq_true h1
  have d1 : decide (b % 8 < 6) = true := decide_eq_true (by omega)
  go_enter Tryd.func51, Tryd.ntmps51
  go_wp2_with (first | (go_at_call 36; refine (spec_l03First.in_ b _ _ _).mono ?_; rintro e w1 ⟨rfl, ⟨nd, rfl⟩⟩; first | rw [C1.out] | rw [C2.out] | rw [C3.out] | rw [C4.out]))
  refine bodyPost_ret (results_cell_row rfl _ _ w.heap.size 33 #[.int .i64 (b / 8 + 1), .int .i64 (1), .int .i64 (0), .bool (b % 2 == 0), .int .i64 (0)] (0, 0) _ rfl (by repeat (first | (with_reducible first | exact blk_new _ _ | refine blk_drewN ?_ _ | refine blk_alloc ?_ _ | (refine blk_far ?_ (Nat.ne_of_lt (Nat.lt_succ_self _)) _)) | apply shape_five)) Tryd.underlying33 rfl (by kernel_rfl)) rfl ?_
  exact ⟨rfl, by repeat (with_reducible first | refine below_set ?_ (Nat.le_refl _) | refine below_set ?_ (Nat.le_succ _) | exact Below.refl _ _ | apply below_alloc | apply pw_below_drewN | apply below_drew1)⟩
set_option maxHeartbeats 4000000 in
set_option maxRecDepth 100000 in
theorem spec_l03First.low2 (b : Int) (h0 : 0 ≤ b) (h1 : b < 64) (hj : b % 8 = 2) (w : World) :
    Calls Tryd.prog 51 #[.int .i64 b] w fun e w' => e = .returned (.agg #[.int .i64 (b / 8 + 1), .int .i64 (2), .int .i64 (0), .bool (b % 2 == 0), .int .i64 (0)]) ∧ Below w.heap.size w w' := by
  have d0 : decide (b < 64) = true := decide_eq_true h1
  have d1 : decide (b % 8 < 6) = true := decide_eq_true (by omega)
  go_enter Tryd.func51, Tryd.ntmps51
  go_wp2_with (first | (go_at_call 36; refine (spec_l03First.in_ b _ _ _).mono ?_; rintro e w1 ⟨rfl, ⟨nd, rfl⟩⟩; first | rw [C1.out] | rw [C2.out] | rw [C3.out] | rw [C4.out]))
  refine bodyPost_ret (results_cell_row rfl _ _ w.heap.size 33 #[.int .i64 (b / 8 + 1), .int .i64 (2), .int .i64 (0), .bool (b % 2 == 0), .int .i64 (0)] (0, 0) _ rfl (by repeat (first | (with_reducible first | exact blk_new _ _ | refine blk_drewN ?_ _ | refine blk_alloc ?_ _ | (refine blk_far ?_ (Nat.ne_of_lt (Nat.lt_succ_self _)) _)) | apply shape_five)) Tryd.underlying33 rfl (by kernel_rfl)) rfl ?_
  exact ⟨rfl, by repeat (with_reducible first | refine below_set ?_ (Nat.le_refl _) | refine below_set ?_ (Nat.le_succ _) | exact Below.refl _ _ | apply below_alloc | apply pw_below_drewN | apply below_drew1)⟩
set_option maxHeartbeats 4000000 in
set_option maxRecDepth 100000 in
theorem spec_l03First.low3 (b : Int) (h0 : 0 ≤ b) (h1 : b < 64) (hj : b % 8 = 3) (w : World) :
    Calls Tryd.prog 51 #[.int .i64 b] w fun e w' => e = .returned (.agg #[.int .i64 (b / 8 + 1), .int .i64 (2), .int .i64 (0), .bool (b % 2 == 0), .int .i64 (0)]) ∧ Below w.heap.size w w' := by
  have d0 : decide (b < 64) = true := decide_eq_true h1
  have d1 : decide (b % 8 < 6) = true := decide_eq_true (by omega)
  go_enter Tryd.func51, Tryd.ntmps51
  go_wp2_with (first | (go_at_call 36; refine (spec_l03First.in_ b _ _ _).mono ?_; rintro e w1 ⟨rfl, ⟨nd, rfl⟩⟩; first | rw [C1.out] | rw [C2.out] | rw [C3.out] | rw [C4.out]))
  refine bodyPost_ret (results_cell_row rfl _ _ w.heap.size 33 #[.int .i64 (b / 8 + 1), .int .i64 (2), .int .i64 (0), .bool (b % 2 == 0), .int .i64 (0)] (0, 0) _ rfl (by repeat (first | (with_reducible first | exact blk_new _ _ | refine blk_drewN ?_ _ | refine blk_alloc ?_ _ | (refine blk_far ?_ (Nat.ne_of_lt (Nat.lt_succ_self _)) _)) | apply shape_five)) Tryd.underlying33 rfl (by kernel_rfl)) rfl ?_
  exact ⟨rfl, by repeat (with_reducible first | refine below_set ?_ (Nat.le_refl _) | refine below_set ?_ (Nat.le_succ _) | exact Below.refl _ _ | apply below_alloc | apply pw_below_drewN | apply below_drew1)⟩
set_option maxHeartbeats 4000000 in
set_option maxRecDepth 100000 in
theorem spec_l03First.low4 (b : Int) (h0 : 0 ≤ b) (h1 : b < 64) (hj : b % 8 = 4) (w : World) :
    Calls Tryd.prog 51 #[.int .i64 b] w fun e w' => e = .returned (.agg #[.int .i64 (b / 8 + 1), .int .i64 (3), .int .i64 (0), .bool (b % 2 == 0), .int .i64 (0)]) ∧ Below w.heap.size w w' := by
  have d0 : decide (b < 64) = true := decide_eq_true h1
  have d1 : decide (b % 8 < 6) = true := decide_eq_true (by omega)
  go_enter Tryd.func51, Tryd.ntmps51
  go_wp2_with (first | (go_at_call 36; refine (spec_l03First.in_ b _ _ _).mono ?_; rintro e w1 ⟨rfl, ⟨nd, rfl⟩⟩; first | rw [C1.out] | rw [C2.out] | rw [C3.out] | rw [C4.out]))
  refine bodyPost_ret (results_cell_row rfl _ _ w.heap.size 33 #[.int .i64 (b / 8 + 1), .int .i64 (3), .int .i64 (0), .bool (b % 2 == 0), .int .i64 (0)] (0, 0) _ rfl (by repeat (first | (with_reducible first | exact blk_new _ _ | refine blk_drewN ?_ _ | refine blk_alloc ?_ _ | (refine blk_far ?_ (Nat.ne_of_lt (Nat.lt_succ_self _)) _)) | apply shape_five)) Tryd.underlying33 rfl (by kernel_rfl)) rfl ?_
  exact ⟨rfl, by repeat (with_reducible first | refine below_set ?_ (Nat.le_refl _) | refine below_set ?_ (Nat.le_succ _) | exact Below.refl _ _ | apply below_alloc | apply pw_below_drewN | apply below_drew1)⟩
set_option maxHeartbeats 4000000 in
set_option maxRecDepth 100000 in
theorem spec_l03First.low5 (b : Int) (h0 : 0 ≤ b) (h1 : b < 64) (hj : b % 8 = 5) (w : World) :
    Calls Tryd.prog 51 #[.int .i64 b] w fun e w' => e = .returned (.agg #[.int .i64 (b / 8 + 1), .int .i64 (3), .int .i64 (0), .bool (b % 2 == 0), .int .i64 (0)]) ∧ Below w.heap.size w w' := by
  have d0 : decide (b < 64) = true := decide_eq_true h1
  have d1 : decide (b % 8 < 6) = true := decide_eq_true (by omega)
  go_enter Tryd.func51, Tryd.ntmps51
  go_wp2_with (first | (go_at_call 36; refine (spec_l03First.in_ b _ _ _).mono ?_; rintro e w1 ⟨rfl, ⟨nd, rfl⟩⟩; first | rw [C1.out] | rw [C2.out] | rw [C3.out] | rw [C4.out]))
  refine bodyPost_ret (results_cell_row rfl _ _ w.heap.size 33 #[.int .i64 (b / 8 + 1), .int .i64 (3), .int .i64 (0), .bool (b % 2 == 0), .int .i64 (0)] (0, 0) _ rfl (by repeat (first | (with_reducible first | exact blk_new _ _ | refine blk_drewN ?_ _ | refine blk_alloc ?_ _ | (refine blk_far ?_ (Nat.ne_of_lt (Nat.lt_succ_self _)) _)) | apply shape_five)) Tryd.underlying33 rfl (by kernel_rfl)) rfl ?_
  exact ⟨rfl, by repeat (with_reducible first | refine below_set ?_ (Nat.le_refl _) | refine below_set ?_ (Nat.le_succ _) | exact Below.refl _ _ | apply below_alloc | apply pw_below_drewN | apply below_drew1)⟩
set_option maxHeartbeats 4000000 in
set_option maxRecDepth 100000 in
theorem spec_l03First.rng0 (b : Int) (h0 : 80 ≤ b) (h1 : b ≤ 87) (w : World) :
    Calls Tryd.prog 51 #[.int .i64 b] w fun e w' => e = .returned (.agg #[.int .i64 (29), .int .i64 (7), .int .i64 (0), .bool (false), .int .i64 (0)]) ∧ Below w.heap.size w w' := by
  have d0 : decide (b < 64) = false := decide_eq_false (by omega)
  have C1 := Aside0.mk (show decide ((80 : Int) ≤ b ∧ b ≤ 87) = true by simp; try omega)
  have C2 := Aside0.mk (show decide ((88 : Int) ≤ b ∧ b ≤ 95) = false by simp; try omega)
  have C3 := Aside0.mk (show decide ((112 : Int) ≤ b ∧ b ≤ 127) = false by simp; try omega)
  have C4 := Aside0.mk (show decide ((176 : Int) ≤ b ∧ b ≤ 191) = false by simp; try omega)
  go_enter Tryd.func51, Tryd.ntmps51
  go_wp2_with (first | (go_at_call 36; refine (spec_l03First.in_ b _ _ _).mono ?_; rintro e w1 ⟨rfl, ⟨nd, rfl⟩⟩; first | rw [C1.out] | rw [C2.out] | rw [C3.out] | rw [C4.out]))
  refine bodyPost_ret (results_cell_row rfl _ _ w.heap.size 33 #[.int .i64 (29), .int .i64 (7), .int .i64 (0), .bool (false), .int .i64 (0)] (0, 0) _ rfl (by repeat (first | (with_reducible first | exact blk_new _ _ | refine blk_drewN ?_ _ | refine blk_alloc ?_ _ | (refine blk_far ?_ (Nat.ne_of_lt (Nat.lt_succ_self _)) _)) | apply shape_five)) Tryd.underlying33 rfl (by kernel_rfl)) rfl ?_
  exact ⟨rfl, by repeat (with_reducible first | refine below_set ?_ (Nat.le_refl _) | refine below_set ?_ (Nat.le_succ _) | exact Below.refl _ _ | apply below_alloc | apply pw_below_drewN | apply below_drew1)⟩
set_option maxHeartbeats 4000000 in
set_option maxRecDepth 100000 in
theorem spec_l03First.rng1 (b : Int) (h0 : 88 ≤ b) (h1 : b ≤ 95) (w : World) :
    Calls Tryd.prog 51 #[.int .i64 b] w fun e w' => e = .returned (.agg #[.int .i64 (30), .int .i64 (7), .int .i64 (0), .bool (false), .int .i64 (0)]) ∧ Below w.heap.size w w' := by
  have d0 : decide (b < 64) = false := decide_eq_false (by omega)
  have C1 := Aside0.mk (show decide ((80 : Int) ≤ b ∧ b ≤ 87) = false by simp; try omega)
  have C2 := Aside0.mk (show decide ((88 : Int) ≤ b ∧ b ≤ 95) = true by simp; try omega)
  have C3 := Aside0.mk (show decide ((112 : Int) ≤ b ∧ b ≤ 127) = false by simp; try omega)
  have C4 := Aside0.mk (show decide ((176 : Int) ≤ b ∧ b ≤ 191) = false by simp; try omega)
  go_enter Tryd.func51, Tryd.ntmps51
  go_wp2_with (first | (go_at_call 36; refine (spec_l03First.in_ b _ _ _).mono ?_; rintro e w1 ⟨rfl, ⟨nd, rfl⟩⟩; first | rw [C1.out] | rw [C2.out] | rw [C3.out] | rw [C4.out]))
  refine bodyPost_ret (results_cell_row rfl _ _ w.heap.size 33 #[.int .i64 (30), .int .i64 (7), .int .i64 (0), .bool (false), .int .i64 (0)] (0, 0) _ rfl (by repeat (first | (with_reducible first | exact blk_new _ _ | refine blk_drewN ?_ _ | refine blk_alloc ?_ _ | (refine blk_far ?_ (Nat.ne_of_lt (Nat.lt_succ_self _)) _)) | apply shape_five)) Tryd.underlying33 rfl (by kernel_rfl)) rfl ?_
  exact ⟨rfl, by repeat (with_reducible first | refine below_set ?_ (Nat.le_refl _) | refine below_set ?_ (Nat.le_succ _) | exact Below.refl _ _ | apply below_alloc | apply pw_below_drewN | apply below_drew1)⟩
set_option maxHeartbeats 4000000 in
set_option maxRecDepth 100000 in
theorem spec_l03First.rng2 (b : Int) (h0 : 112 ≤ b) (h1 : b ≤ 127) (w : World) :
    Calls Tryd.prog 51 #[.int .i64 b] w fun e w' => e = .returned (.agg #[.int .i64 (33), .int .i64 (9), .int .i64 (0), .bool (false), .int .i64 (0)]) ∧ Below w.heap.size w w' := by
  have d0 : decide (b < 64) = false := decide_eq_false (by omega)
  have C1 := Aside0.mk (show decide ((80 : Int) ≤ b ∧ b ≤ 87) = false by simp; try omega)
  have C2 := Aside0.mk (show decide ((88 : Int) ≤ b ∧ b ≤ 95) = false by simp; try omega)
  have C3 := Aside0.mk (show decide ((112 : Int) ≤ b ∧ b ≤ 127) = true by simp; try omega)
  have C4 := Aside0.mk (show decide ((176 : Int) ≤ b ∧ b ≤ 191) = false by simp; try omega)
  go_enter Tryd.func51, Tryd.ntmps51
  go_wp2_with (first | (go_at_call 36; refine (spec_l03First.in_ b _ _ _).mono ?_; rintro e w1 ⟨rfl, ⟨nd, rfl⟩⟩; first | rw [C1.out] | rw [C2.out] | rw [C3.out] | rw [C4.out]))
  refine bodyPost_ret (results_cell_row rfl _ _ w.heap.size 33 #[.int .i64 (33), .int .i64 (9), .int .i64 (0), .bool (false), .int .i64 (0)] (0, 0) _ rfl (by repeat (first | (with_reducible first | exact blk_new _ _ | refine blk_drewN ?_ _ | refine blk_alloc ?_ _ | (refine blk_far ?_ (Nat.ne_of_lt (Nat.lt_succ_self _)) _)) | apply shape_five)) Tryd.underlying33 rfl (by kernel_rfl)) rfl ?_
  exact ⟨rfl, by repeat (with_reducible first | refine below_set ?_ (Nat.le_refl _) | refine below_set ?_ (Nat.le_succ _) | exact Below.refl _ _ | apply below_alloc | apply pw_below_drewN | apply below_drew1)⟩
set_option maxHeartbeats 4000000 in
set_option maxRecDepth 100000 in
theorem spec_l03First.rng3 (b : Int) (h0 : 176 ≤ b) (h1 : b ≤ 191) (w : World) :
    Calls Tryd.prog 51 #[.int .i64 b] w fun e w' => e = .returned (.agg #[.int .i64 (9), .int .i64 (8), .int .i64 (0), .bool (decide (b < 184)), .int .i64 (0)]) ∧ Below w.heap.size w w' := by
  have d0 : decide (b < 64) = false := decide_eq_false (by omega)
  have C1 := Aside0.mk (show decide ((80 : Int) ≤ b ∧ b ≤ 87) = false by simp; try omega)
  have C2 := Aside0.mk (show decide ((88 : Int) ≤ b ∧ b ≤ 95) = false by simp; try omega)
  have C3 := Aside0.mk (show decide ((112 : Int) ≤ b ∧ b ≤ 127) = false by simp; try omega)
  have C4 := Aside0.mk (show decide ((176 : Int) ≤ b ∧ b ≤ 191) = true by simp; try omega)
  go_enter Tryd.func51, Tryd.ntmps51
  go_wp2_with (first | (go_at_call 36; refine (spec_l03First.in_ b _ _ _).mono ?_; rintro e w1 ⟨rfl, ⟨nd, rfl⟩⟩; first | rw [C1.out] | rw [C2.out] | rw [C3.out] | rw [C4.out]))
  refine bodyPost_ret (results_cell_row rfl _ _ w.heap.size 33 #[.int .i64 (9), .int .i64 (8), .int .i64 (0), .bool (decide (b < 184)), .int .i64 (0)] (0, 0) _ rfl (by repeat (first | (with_reducible first | exact blk_new _ _ | refine blk_drewN ?_ _ | refine blk_alloc ?_ _ | (refine blk_far ?_ (Nat.ne_of_lt (Nat.lt_succ_self _)) _)) | apply shape_five)) Tryd.underlying33 rfl (by kernel_rfl)) rfl ?_
  exact ⟨rfl, by repeat (with_reducible first | refine below_set ?_ (Nat.le_refl _) | refine below_set ?_ (Nat.le_succ _) | exact Below.refl _ _ | apply below_alloc | apply pw_below_drewN | apply below_drew1)⟩
set_option maxHeartbeats 4000000 in
set_option maxRecDepth 100000 in
theorem spec_l03First.v99 (w : World) :
    Calls Tryd.prog 51 #[.int .i64 99] w fun e w' => e = .returned (.agg #[.int .i64 (27), .int .i64 (17), .int .i64 (0), .bool (false), .int .i64 (4)]) ∧ Below w.heap.size w w' := by
  have C1 := Aside0.mk (show decide ((80 : Int) ≤ 99 ∧ (99 : Int) ≤ 87) = false from rfl)
  have C2 := Aside0.mk (show decide ((88 : Int) ≤ 99 ∧ (99 : Int) ≤ 95) = false from rfl)
  have C3 := Aside0.mk (show decide ((112 : Int) ≤ 99 ∧ (99 : Int) ≤ 127) = false from rfl)
  have C4 := Aside0.mk (show decide ((176 : Int) ≤ 99 ∧ (99 : Int) ≤ 191) = false from rfl)
  go_enter Tryd.func51, Tryd.ntmps51
  go_wp2_with (first | (go_at_call 36; refine (spec_l03First.in_ 99 _ _ _).mono ?_; rintro e w1 ⟨rfl, ⟨nd, rfl⟩⟩; first | rw [C1.out] | rw [C2.out] | rw [C3.out] | rw [C4.out]))
  refine bodyPost_ret (results_cell_row rfl _ _ w.heap.size 33 #[.int .i64 (27), .int .i64 (17), .int .i64 (0), .bool (false), .int .i64 (4)] (0, 0) _ rfl (by repeat (first | (with_reducible first | exact blk_new _ _ | refine blk_drewN ?_ _ | refine blk_alloc ?_ _ | (refine blk_far ?_ (Nat.ne_of_lt (Nat.lt_succ_self _)) _)) | apply shape_five)) Tryd.underlying33 rfl (by kernel_rfl)) rfl ?_
  exact ⟨rfl, by repeat (with_reducible first | refine below_set ?_ (Nat.le_refl _) | refine below_set ?_ (Nat.le_succ _) | exact Below.refl _ _ | apply below_alloc | apply pw_below_drewN | apply below_drew1)⟩
set_option maxHeartbeats 4000000 in
set_option maxRecDepth 100000 in
theorem spec_l03First.v104 (w : World) :
    Calls Tryd.prog 51 #[.int .i64 104] w fun e w' => e = .returned (.agg #[.int .i64 (29), .int .i64 (16), .int .i64 (0), .bool (false), .int .i64 (0)]) ∧ Below w.heap.size w w' := by
  have C1 := Aside0.mk (show decide ((80 : Int) ≤ 104 ∧ (104 : Int) ≤ 87) = false from rfl)
  have C2 := Aside0.mk (show decide ((88 : Int) ≤ 104 ∧ (104 : Int) ≤ 95) = false from rfl)
  have C3 := Aside0.mk (show decide ((112 : Int) ≤ 104 ∧ (104 : Int) ≤ 127) = false from rfl)
  have C4 := Aside0.mk (show decide ((176 : Int) ≤ 104 ∧ (104 : Int) ≤ 191) = false from rfl)
  go_enter Tryd.func51, Tryd.ntmps51
  go_wp2_with (first | (go_at_call 36; refine (spec_l03First.in_ 104 _ _ _).mono ?_; rintro e w1 ⟨rfl, ⟨nd, rfl⟩⟩; first | rw [C1.out] | rw [C2.out] | rw [C3.out] | rw [C4.out]))
  refine bodyPost_ret (results_cell_row rfl _ _ w.heap.size 33 #[.int .i64 (29), .int .i64 (16), .int .i64 (0), .bool (false), .int .i64 (0)] (0, 0) _ rfl (by repeat (first | (with_reducible first | exact blk_new _ _ | refine blk_drewN ?_ _ | refine blk_alloc ?_ _ | (refine blk_far ?_ (Nat.ne_of_lt (Nat.lt_succ_self _)) _)) | apply shape_five)) Tryd.underlying33 rfl (by kernel_rfl)) rfl ?_
  exact ⟨rfl, by repeat (with_reducible first | refine below_set ?_ (Nat.le_refl _) | refine below_set ?_ (Nat.le_succ _) | exact Below.refl _ _ | apply below_alloc | apply pw_below_drewN | apply below_drew1)⟩
set_option maxHeartbeats 4000000 in
set_option maxRecDepth 100000 in
theorem spec_l03First.v106 (w : World) :
    Calls Tryd.prog 51 #[.int .i64 106] w fun e w' => e = .returned (.agg #[.int .i64 (29), .int .i64 (15), .int .i64 (0), .bool (false), .int .i64 (0)]) ∧ Below w.heap.size w w' := by
  have C1 := Aside0.mk (show decide ((80 : Int) ≤ 106 ∧ (106 : Int) ≤ 87) = false from rfl)
  have C2 := Aside0.mk (show decide ((88 : Int) ≤ 106 ∧ (106 : Int) ≤ 95) = false from rfl)
  have C3 := Aside0.mk (show decide ((112 : Int) ≤ 106 ∧ (106 : Int) ≤ 127) = false from rfl)
  have C4 := Aside0.mk (show decide ((176 : Int) ≤ 106 ∧ (106 : Int) ≤ 191) = false from rfl)
  go_enter Tryd.func51, Tryd.ntmps51
  go_wp2_with (first | (go_at_call 36; refine (spec_l03First.in_ 106 _ _ _).mono ?_; rintro e w1 ⟨rfl, ⟨nd, rfl⟩⟩; first | rw [C1.out] | rw [C2.out] | rw [C3.out] | rw [C4.out]))
  refine bodyPost_ret (results_cell_row rfl _ _ w.heap.size 33 #[.int .i64 (29), .int .i64 (15), .int .i64 (0), .bool (false), .int .i64 (0)] (0, 0) _ rfl (by repeat (first | (with_reducible first | exact blk_new _ _ | refine blk_drewN ?_ _ | refine blk_alloc ?_ _ | (refine blk_far ?_ (Nat.ne_of_lt (Nat.lt_succ_self _)) _)) | apply shape_five)) Tryd.underlying33 rfl (by kernel_rfl)) rfl ?_
  exact ⟨rfl, by repeat (with_reducible first | refine below_set ?_ (Nat.le_refl _) | refine below_set ?_ (Nat.le_succ _) | exact Below.refl _ _ | apply below_alloc | apply pw_below_drewN | apply below_drew1)⟩
set_option maxHeartbeats 4000000 in
set_option maxRecDepth 100000 in
theorem spec_l03First.v128 (w : World) :
    Calls Tryd.prog 51 #[.int .i64 128] w fun e w' => e = .returned (.agg #[.int .i64 (0), .int .i64 (5), .int .i64 (1), .bool (true), .int .i64 (0)]) ∧ Below w.heap.size w w' := by
  have C1 := Aside0.mk (show decide ((80 : Int) ≤ 128 ∧ (128 : Int) ≤ 87) = false from rfl)
  have C2 := Aside0.mk (show decide ((88 : Int) ≤ 128 ∧ (128 : Int) ≤ 95) = false from rfl)
  have C3 := Aside0.mk (show decide ((112 : Int) ≤ 128 ∧ (128 : Int) ≤ 127) = false from rfl)
  have C4 := Aside0.mk (show decide ((176 : Int) ≤ 128 ∧ (128 : Int) ≤ 191) = false from rfl)
  go_enter Tryd.func51, Tryd.ntmps51
  go_wp2_with (first | (go_at_call 36; refine (spec_l03First.in_ 128 _ _ _).mono ?_; rintro e w1 ⟨rfl, ⟨nd, rfl⟩⟩; first | rw [C1.out] | rw [C2.out] | rw [C3.out] | rw [C4.out]))
  refine bodyPost_ret (results_cell_row rfl _ _ w.heap.size 33 #[.int .i64 (0), .int .i64 (5), .int .i64 (1), .bool (true), .int .i64 (0)] (0, 0) _ rfl (by repeat (first | (with_reducible first | exact blk_new _ _ | refine blk_drewN ?_ _ | refine blk_alloc ?_ _ | (refine blk_far ?_ (Nat.ne_of_lt (Nat.lt_succ_self _)) _)) | apply shape_five)) Tryd.underlying33 rfl (by kernel_rfl)) rfl ?_
  exact ⟨rfl, by repeat (with_reducible first | refine below_set ?_ (Nat.le_refl _) | refine below_set ?_ (Nat.le_succ _) | exact Below.refl _ _ | apply below_alloc | apply pw_below_drewN | apply below_drew1)⟩
set_option maxHeartbeats 4000000 in
set_option maxRecDepth 100000 in
theorem spec_l03First.v129 (w : World) :
    Calls Tryd.prog 51 #[.int .i64 129] w fun e w' => e = .returned (.agg #[.int .i64 (0), .int .i64 (5), .int .i64 (1), .bool (false), .int .i64 (0)]) ∧ Below w.heap.size w w' := by
  have C1 := Aside0.mk (show decide ((80 : Int) ≤ 129 ∧ (129 : Int) ≤ 87) = false from rfl)
  have C2 := Aside0.mk (show decide ((88 : Int) ≤ 129 ∧ (129 : Int) ≤ 95) = false from rfl)
  have C3 := Aside0.mk (show decide ((112 : Int) ≤ 129 ∧ (129 : Int) ≤ 127) = false from rfl)
  have C4 := Aside0.mk (show decide ((176 : Int) ≤ 129 ∧ (129 : Int) ≤ 191) = false from rfl)
  go_enter Tryd.func51, Tryd.ntmps51
  go_wp2_with (first | (go_at_call 36; refine (spec_l03First.in_ 129 _ _ _).mono ?_; rintro e w1 ⟨rfl, ⟨nd, rfl⟩⟩; first | rw [C1.out] | rw [C2.out] | rw [C3.out] | rw [C4.out]))
  refine bodyPost_ret (results_cell_row rfl _ _ w.heap.size 33 #[.int .i64 (0), .int .i64 (5), .int .i64 (1), .bool (false), .int .i64 (0)] (0, 0) _ rfl (by repeat (first | (with_reducible first | exact blk_new _ _ | refine blk_drewN ?_ _ | refine blk_alloc ?_ _ | (refine blk_far ?_ (Nat.ne_of_lt (Nat.lt_succ_self _)) _)) | apply shape_five)) Tryd.underlying33 rfl (by kernel_rfl)) rfl ?_
  exact ⟨rfl, by repeat (with_reducible first | refine below_set ?_ (Nat.le_refl _) | refine below_set ?_ (Nat.le_succ _) | exact Below.refl _ _ | apply below_alloc | apply pw_below_drewN | apply below_drew1)⟩
set_option maxHeartbeats 4000000 in
set_option maxRecDepth 100000 in
theorem spec_l03First.v131 (w : World) :
    Calls Tryd.prog 51 #[.int .i64 131] w fun e w' => e = .returned (.agg #[.int .i64 (0), .int .i64 (4), .int .i64 (1), .bool (false), .int .i64 (0)]) ∧ Below w.heap.size w w' := by
  have C1 := Aside0.mk (show decide ((80 : Int) ≤ 131 ∧ (131 : Int) ≤ 87) = false from rfl)
  have C2 := Aside0.mk (show decide ((88 : Int) ≤ 131 ∧ (131 : Int) ≤ 95) = false from rfl)
  have C3 := Aside0.mk (show decide ((112 : Int) ≤ 131 ∧ (131 : Int) ≤ 127) = false from rfl)
  have C4 := Aside0.mk (show decide ((176 : Int) ≤ 131 ∧ (131 : Int) ≤ 191) = false from rfl)
  go_enter Tryd.func51, Tryd.ntmps51
  go_wp2_with (first | (go_at_call 36; refine (spec_l03First.in_ 131 _ _ _).mono ?_; rintro e w1 ⟨rfl, ⟨nd, rfl⟩⟩; first | rw [C1.out] | rw [C2.out] | rw [C3.out] | rw [C4.out]))
  refine bodyPost_ret (results_cell_row rfl _ _ w.heap.size 33 #[.int .i64 (0), .int .i64 (4), .int .i64 (1), .bool (false), .int .i64 (0)] (0, 0) _ rfl (by repeat (first | (with_reducible first | exact blk_new _ _ | refine blk_drewN ?_ _ | refine blk_alloc ?_ _ | (refine blk_far ?_ (Nat.ne_of_lt (Nat.lt_succ_self _)) _)) | apply shape_five)) Tryd.underlying33 rfl (by kernel_rfl)) rfl ?_
  exact ⟨rfl, by repeat (with_reducible first | refine below_set ?_ (Nat.le_refl _) | refine below_set ?_ (Nat.le_succ _) | exact Below.refl _ _ | apply below_alloc | apply pw_below_drewN | apply below_drew1)⟩
set_option maxHeartbeats 4000000 in
set_option maxRecDepth 100000 in
theorem spec_l03First.v132 (w : World) :
    Calls Tryd.prog 51 #[.int .i64 132] w fun e w' => e = .returned (.agg #[.int .i64 (10), .int .i64 (1), .int .i64 (0), .bool (true), .int .i64 (0)]) ∧ Below w.heap.size w w' := by
  have C1 := Aside0.mk (show decide ((80 : Int) ≤ 132 ∧ (132 : Int) ≤ 87) = false from rfl)
  have C2 := Aside0.mk (show decide ((88 : Int) ≤ 132 ∧ (132 : Int) ≤ 95) = false from rfl)
  have C3 := Aside0.mk (show decide ((112 : Int) ≤ 132 ∧ (132 : Int) ≤ 127) = false from rfl)
  have C4 := Aside0.mk (show decide ((176 : Int) ≤ 132 ∧ (132 : Int) ≤ 191) = false from rfl)
  go_enter Tryd.func51, Tryd.ntmps51
  go_wp2_with (first | (go_at_call 36; refine (spec_l03First.in_ 132 _ _ _).mono ?_; rintro e w1 ⟨rfl, ⟨nd, rfl⟩⟩; first | rw [C1.out] | rw [C2.out] | rw [C3.out] | rw [C4.out]))
  refine bodyPost_ret (results_cell_row rfl _ _ w.heap.size 33 #[.int .i64 (10), .int .i64 (1), .int .i64 (0), .bool (true), .int .i64 (0)] (0, 0) _ rfl (by repeat (first | (with_reducible first | exact blk_new _ _ | refine blk_drewN ?_ _ | refine blk_alloc ?_ _ | (refine blk_far ?_ (Nat.ne_of_lt (Nat.lt_succ_self _)) _)) | apply shape_five)) Tryd.underlying33 rfl (by kernel_rfl)) rfl ?_
  exact ⟨rfl, by repeat (with_reducible first | refine below_set ?_ (Nat.le_refl _) | refine below_set ?_ (Nat.le_succ _) | exact Below.refl _ _ | apply below_alloc | apply pw_below_drewN | apply below_drew1)⟩
set_option maxHeartbeats 4000000 in
set_option maxRecDepth 100000 in
theorem spec_l03First.v133 (w : World) :
    Calls Tryd.prog 51 #[.int .i64 133] w fun e w' => e = .returned (.agg #[.int .i64 (10), .int .i64 (1), .int .i64 (0), .bool (false), .int .i64 (0)]) ∧ Below w.heap.size w w' := by
  have C1 := Aside0.mk (show decide ((80 : Int) ≤ 133 ∧ (133 : Int) ≤ 87) = false from rfl)
  have C2 := Aside0.mk (show decide ((88 : Int) ≤ 133 ∧ (133 : Int) ≤ 95) = false from rfl)
  have C3 := Aside0.mk (show decide ((112 : Int) ≤ 133 ∧ (133 : Int) ≤ 127) = false from rfl)
  have C4 := Aside0.mk (show decide ((176 : Int) ≤ 133 ∧ (133 : Int) ≤ 191) = false from rfl)
  go_enter Tryd.func51, Tryd.ntmps51
  go_wp2_with (first | (go_at_call 36; refine (spec_l03First.in_ 133 _ _ _).mono ?_; rintro e w1 ⟨rfl, ⟨nd, rfl⟩⟩; first | rw [C1.out] | rw [C2.out] | rw [C3.out] | rw [C4.out]))
  refine bodyPost_ret (results_cell_row rfl _ _ w.heap.size 33 #[.int .i64 (10), .int .i64 (1), .int .i64 (0), .bool (false), .int .i64 (0)] (0, 0) _ rfl (by repeat (first | (with_reducible first | exact blk_new _ _ | refine blk_drewN ?_ _ | refine blk_alloc ?_ _ | (refine blk_far ?_ (Nat.ne_of_lt (Nat.lt_succ_self _)) _)) | apply shape_five)) Tryd.underlying33 rfl (by kernel_rfl)) rfl ?_
  exact ⟨rfl, by repeat (with_reducible first | refine below_set ?_ (Nat.le_refl _) | refine below_set ?_ (Nat.le_succ _) | exact Below.refl _ _ | apply below_alloc | apply pw_below_drewN | apply below_drew1)⟩
set_option maxHeartbeats 4000000 in
set_option maxRecDepth 100000 in
theorem spec_l03First.v134 (w : World) :
    Calls Tryd.prog 51 #[.int .i64 134] w fun e w' => e = .returned (.agg #[.int .i64 (28), .int .i64 (1), .int .i64 (0), .bool (true), .int .i64 (0)]) ∧ Below w.heap.size w w' := by
  have C1 := Aside0.mk (show decide ((80 : Int) ≤ 134 ∧ (134 : Int) ≤ 87) = false from rfl)
  have C2 := Aside0.mk (show decide ((88 : Int) ≤ 134 ∧ (134 : Int) ≤ 95) = false from rfl)
  have C3 := Aside0.mk (show decide ((112 : Int) ≤ 134 ∧ (134 : Int) ≤ 127) = false from rfl)
  have C4 := Aside0.mk (show decide ((176 : Int) ≤ 134 ∧ (134 : Int) ≤ 191) = false from rfl)
  go_enter Tryd.func51, Tryd.ntmps51
  go_wp2_with (first | (go_at_call 36; refine (spec_l03First.in_ 134 _ _ _).mono ?_; rintro e w1 ⟨rfl, ⟨nd, rfl⟩⟩; first | rw [C1.out] | rw [C2.out] | rw [C3.out] | rw [C4.out]))
  refine bodyPost_ret (results_cell_row rfl _ _ w.heap.size 33 #[.int .i64 (28), .int .i64 (1), .int .i64 (0), .bool (true), .int .i64 (0)] (0, 0) _ rfl (by repeat (first | (with_reducible first | exact blk_new _ _ | refine blk_drewN ?_ _ | refine blk_alloc ?_ _ | (refine blk_far ?_ (Nat.ne_of_lt (Nat.lt_succ_self _)) _)) | apply shape_five)) Tryd.underlying33 rfl (by kernel_rfl)) rfl ?_
  exact ⟨rfl, by repeat (with_reducible first | refine below_set ?_ (Nat.le_refl _) | refine below_set ?_ (Nat.le_succ _) | exact Below.refl _ _ | apply below_alloc | apply pw_below_drewN | apply below_drew1)⟩
set_option maxHeartbeats 4000000 in
set_option maxRecDepth 100000 in
theorem spec_l03First.v135 (w : World) :
    Calls Tryd.prog 51 #[.int .i64 135] w fun e w' => e = .returned (.agg #[.int .i64 (28), .int .i64 (1), .int .i64 (0), .bool (false), .int .i64 (0)]) ∧ Below w.heap.size w w' := by
  have C1 := Aside0.mk (show decide ((80 : Int) ≤ 135 ∧ (135 : Int) ≤ 87) = false from rfl)
  have C2 := Aside0.mk (show decide ((88 : Int) ≤ 135 ∧ (135 : Int) ≤ 95) = false from rfl)
  have C3 := Aside0.mk (show decide ((112 : Int) ≤ 135 ∧ (135 : Int) ≤ 127) = false from rfl)
  have C4 := Aside0.mk (show decide ((176 : Int) ≤ 135 ∧ (135 : Int) ≤ 191) = false from rfl)
  go_enter Tryd.func51, Tryd.ntmps51
  go_wp2_with (first | (go_at_call 36; refine (spec_l03First.in_ 135 _ _ _).mono ?_; rintro e w1 ⟨rfl, ⟨nd, rfl⟩⟩; first | rw [C1.out] | rw [C2.out] | rw [C3.out] | rw [C4.out]))
  refine bodyPost_ret (results_cell_row rfl _ _ w.heap.size 33 #[.int .i64 (28), .int .i64 (1), .int .i64 (0), .bool (false), .int .i64 (0)] (0, 0) _ rfl (by repeat (first | (with_reducible first | exact blk_new _ _ | refine blk_drewN ?_ _ | refine blk_alloc ?_ _ | (refine blk_far ?_ (Nat.ne_of_lt (Nat.lt_succ_self _)) _)) | apply shape_five)) Tryd.underlying33 rfl (by kernel_rfl)) rfl ?_
  exact ⟨rfl, by repeat (with_reducible first | refine below_set ?_ (Nat.le_refl _) | refine below_set ?_ (Nat.le_succ _) | exact Below.refl _ _ | apply below_alloc | apply pw_below_drewN | apply below_drew1)⟩
set_option maxHeartbeats 4000000 in
set_option maxRecDepth 100000 in
theorem spec_l03First.v136 (w : World) :
    Calls Tryd.prog 51 #[.int .i64 136] w fun e w' => e = .returned (.agg #[.int .i64 (9), .int .i64 (1), .int .i64 (0), .bool (true), .int .i64 (0)]) ∧ Below w.heap.size w w' := by
  have C1 := Aside0.mk (show decide ((80 : Int) ≤ 136 ∧ (136 : Int) ≤ 87) = false from rfl)
  have C2 := Aside0.mk (show decide ((88 : Int) ≤ 136 ∧ (136 : Int) ≤ 95) = false from rfl)
  have C3 := Aside0.mk (show decide ((112 : Int) ≤ 136 ∧ (136 : Int) ≤ 127) = false from rfl)
  have C4 := Aside0.mk (show decide ((176 : Int) ≤ 136 ∧ (136 : Int) ≤ 191) = false from rfl)
  go_enter Tryd.func51, Tryd.ntmps51
  go_wp2_with (first | (go_at_call 36; refine (spec_l03First.in_ 136 _ _ _).mono ?_; rintro e w1 ⟨rfl, ⟨nd, rfl⟩⟩; first | rw [C1.out] | rw [C2.out] | rw [C3.out] | rw [C4.out]))
  refine bodyPost_ret (results_cell_row rfl _ _ w.heap.size 33 #[.int .i64 (9), .int .i64 (1), .int .i64 (0), .bool (true), .int .i64 (0)] (0, 0) _ rfl (by repeat (first | (with_reducible first | exact blk_new _ _ | refine blk_drewN ?_ _ | refine blk_alloc ?_ _ | (refine blk_far ?_ (Nat.ne_of_lt (Nat.lt_succ_self _)) _)) | apply shape_five)) Tryd.underlying33 rfl (by kernel_rfl)) rfl ?_
  exact ⟨rfl, by repeat (with_reducible first | refine below_set ?_ (Nat.le_refl _) | refine below_set ?_ (Nat.le_succ _) | exact Below.refl _ _ | apply below_alloc | apply pw_below_drewN | apply below_drew1)⟩
set_option maxHeartbeats 4000000 in
set_option maxRecDepth 100000 in
theorem spec_l03First.v137 (w : World) :
    Calls Tryd.prog 51 #[.int .i64 137] w fun e w' => e = .returned (.agg #[.int .i64 (9), .int .i64 (1), .int .i64 (0), .bool (false), .int .i64 (0)]) ∧ Below w.heap.size w w' := by
  have C1 := Aside0.mk (show decide ((80 : Int) ≤ 137 ∧ (137 : Int) ≤ 87) = false from rfl)
  have C2 := Aside0.mk (show decide ((88 : Int) ≤ 137 ∧ (137 : Int) ≤ 95) = false from rfl)
  have C3 := Aside0.mk (show decide ((112 : Int) ≤ 137 ∧ (137 : Int) ≤ 127) = false from rfl)
  have C4 := Aside0.mk (show decide ((176 : Int) ≤ 137 ∧ (137 : Int) ≤ 191) = false from rfl)
  go_enter Tryd.func51, Tryd.ntmps51
  go_wp2_with (first | (go_at_call 36; refine (spec_l03First.in_ 137 _ _ _).mono ?_; rintro e w1 ⟨rfl, ⟨nd, rfl⟩⟩; first | rw [C1.out] | rw [C2.out] | rw [C3.out] | rw [C4.out]))
  refine bodyPost_ret (results_cell_row rfl _ _ w.heap.size 33 #[.int .i64 (9), .int .i64 (1), .int .i64 (0), .bool (false), .int .i64 (0)] (0, 0) _ rfl (by repeat (first | (with_reducible first | exact blk_new _ _ | refine blk_drewN ?_ _ | refine blk_alloc ?_ _ | (refine blk_far ?_ (Nat.ne_of_lt (Nat.lt_succ_self _)) _)) | apply shape_five)) Tryd.underlying33 rfl (by kernel_rfl)) rfl ?_
  exact ⟨rfl, by repeat (with_reducible first | refine below_set ?_ (Nat.le_refl _) | refine below_set ?_ (Nat.le_succ _) | exact Below.refl _ _ | apply below_alloc | apply pw_below_drewN | apply below_drew1)⟩
set_option maxHeartbeats 4000000 in
set_option maxRecDepth 100000 in
theorem spec_l03First.v138 (w : World) :
    Calls Tryd.prog 51 #[.int .i64 138] w fun e w' => e = .returned (.agg #[.int .i64 (9), .int .i64 (2), .int .i64 (0), .bool (true), .int .i64 (0)]) ∧ Below w.heap.size w w' := by
  have C1 := Aside0.mk (show decide ((80 : Int) ≤ 138 ∧ (138 : Int) ≤ 87) = false from rfl)
  have C2 := Aside0.mk (show decide ((88 : Int) ≤ 138 ∧ (138 : Int) ≤ 95) = false from rfl)
  have C3 := Aside0.mk (show decide ((112 : Int) ≤ 138 ∧ (138 : Int) ≤ 127) = false from rfl)
  have C4 := Aside0.mk (show decide ((176 : Int) ≤ 138 ∧ (138 : Int) ≤ 191) = false from rfl)
  go_enter Tryd.func51, Tryd.ntmps51
  go_wp2_with (first | (go_at_call 36; refine (spec_l03First.in_ 138 _ _ _).mono ?_; rintro e w1 ⟨rfl, ⟨nd, rfl⟩⟩; first | rw [C1.out] | rw [C2.out] | rw [C3.out] | rw [C4.out]))
  refine bodyPost_ret (results_cell_row rfl _ _ w.heap.size 33 #[.int .i64 (9), .int .i64 (2), .int .i64 (0), .bool (true), .int .i64 (0)] (0, 0) _ rfl (by repeat (first | (with_reducible first | exact blk_new _ _ | refine blk_drewN ?_ _ | refine blk_alloc ?_ _ | (refine blk_far ?_ (Nat.ne_of_lt (Nat.lt_succ_self _)) _)) | apply shape_five)) Tryd.underlying33 rfl (by kernel_rfl)) rfl ?_
  exact ⟨rfl, by repeat (with_reducible first | refine below_set ?_ (Nat.le_refl _) | refine below_set ?_ (Nat.le_succ _) | exact Below.refl _ _ | apply below_alloc | apply pw_below_drewN | apply below_drew1)⟩
set_option maxHeartbeats 4000000 in
set_option maxRecDepth 100000 in
theorem spec_l03First.v139 (w : World) :
    Calls Tryd.prog 51 #[.int .i64 139] w fun e w' => e = .returned (.agg #[.int .i64 (9), .int .i64 (2), .int .i64 (0), .bool (false), .int .i64 (0)]) ∧ Below w.heap.size w w' := by
  have C1 := Aside0.mk (show decide ((80 : Int) ≤ 139 ∧ (139 : Int) ≤ 87) = false from rfl)
  have C2 := Aside0.mk (show decide ((88 : Int) ≤ 139 ∧ (139 : Int) ≤ 95) = false from rfl)
  have C3 := Aside0.mk (show decide ((112 : Int) ≤ 139 ∧ (139 : Int) ≤ 127) = false from rfl)
  have C4 := Aside0.mk (show decide ((176 : Int) ≤ 139 ∧ (139 : Int) ≤ 191) = false from rfl)
  go_enter Tryd.func51, Tryd.ntmps51
  go_wp2_with (first | (go_at_call 36; refine (spec_l03First.in_ 139 _ _ _).mono ?_; rintro e w1 ⟨rfl, ⟨nd, rfl⟩⟩; first | rw [C1.out] | rw [C2.out] | rw [C3.out] | rw [C4.out]))
  refine bodyPost_ret (results_cell_row rfl _ _ w.heap.size 33 #[.int .i64 (9), .int .i64 (2), .int .i64 (0), .bool (false), .int .i64 (0)] (0, 0) _ rfl (by repeat (first | (with_reducible first | exact blk_new _ _ | refine blk_drewN ?_ _ | refine blk_alloc ?_ _ | (refine blk_far ?_ (Nat.ne_of_lt (Nat.lt_succ_self _)) _)) | apply shape_five)) Tryd.underlying33 rfl (by kernel_rfl)) rfl ?_
  exact ⟨rfl, by repeat (with_reducible first | refine below_set ?_ (Nat.le_refl _) | refine below_set ?_ (Nat.le_succ _) | exact Below.refl _ _ | apply below_alloc | apply pw_below_drewN | apply below_drew1)⟩
set_option maxHeartbeats 4000000 in
set_option maxRecDepth 100000 in
theorem spec_l03First.v141 (w : World) :
    Calls Tryd.prog 51 #[.int .i64 141] w fun e w' => e = .returned (.agg #[.int .i64 (25), .int .i64 (2), .int .i64 (0), .bool (false), .int .i64 (0)]) ∧ Below w.heap.size w w' := by
  have C1 := Aside0.mk (show decide ((80 : Int) ≤ 141 ∧ (141 : Int) ≤ 87) = false from rfl)
  have C2 := Aside0.mk (show decide ((88 : Int) ≤ 141 ∧ (141 : Int) ≤ 95) = false from rfl)
  have C3 := Aside0.mk (show decide ((112 : Int) ≤ 141 ∧ (141 : Int) ≤ 127) = false from rfl)
  have C4 := Aside0.mk (show decide ((176 : Int) ≤ 141 ∧ (141 : Int) ≤ 191) = false from rfl)
  go_enter Tryd.func51, Tryd.ntmps51
  go_wp2_with (first | (go_at_call 36; refine (spec_l03First.in_ 141 _ _ _).mono ?_; rintro e w1 ⟨rfl, ⟨nd, rfl⟩⟩; first | rw [C1.out] | rw [C2.out] | rw [C3.out] | rw [C4.out]))
  refine bodyPost_ret (results_cell_row rfl _ _ w.heap.size 33 #[.int .i64 (25), .int .i64 (2), .int .i64 (0), .bool (false), .int .i64 (0)] (0, 0) _ rfl (by repeat (first | (with_reducible first | exact blk_new _ _ | refine blk_drewN ?_ _ | refine blk_alloc ?_ _ | (refine blk_far ?_ (Nat.ne_of_lt (Nat.lt_succ_self _)) _)) | apply shape_five)) Tryd.underlying33 rfl (by kernel_rfl)) rfl ?_
  exact ⟨rfl, by repeat (with_reducible first | refine below_set ?_ (Nat.le_refl _) | refine below_set ?_ (Nat.le_succ _) | exact Below.refl _ _ | apply below_alloc | apply pw_below_drewN | apply below_drew1)⟩
set_option maxHeartbeats 4000000 in
set_option maxRecDepth 100000 in
theorem spec_l03First.v143 (w : World) :
    Calls Tryd.prog 51 #[.int .i64 143] w fun e w' => e = .returned (.agg #[.int .i64 (0), .int .i64 (6), .int .i64 (6), .bool (false), .int .i64 (0)]) ∧ Below w.heap.size w w' := by
  have C1 := Aside0.mk (show decide ((80 : Int) ≤ 143 ∧ (143 : Int) ≤ 87) = false from rfl)
  have C2 := Aside0.mk (show decide ((88 : Int) ≤ 143 ∧ (143 : Int) ≤ 95) = false from rfl)
  have C3 := Aside0.mk (show decide ((112 : Int) ≤ 143 ∧ (143 : Int) ≤ 127) = false from rfl)
  have C4 := Aside0.mk (show decide ((176 : Int) ≤ 143 ∧ (143 : Int) ≤ 191) = false from rfl)
  go_enter Tryd.func51, Tryd.ntmps51
  go_wp2_with (first | (go_at_call 36; refine (spec_l03First.in_ 143 _ _ _).mono ?_; rintro e w1 ⟨rfl, ⟨nd, rfl⟩⟩; first | rw [C1.out] | rw [C2.out] | rw [C3.out] | rw [C4.out]))
  refine bodyPost_ret (results_cell_row rfl _ _ w.heap.size 33 #[.int .i64 (0), .int .i64 (6), .int .i64 (6), .bool (false), .int .i64 (0)] (0, 0) _ rfl (by repeat (first | (with_reducible first | exact blk_new _ _ | refine blk_drewN ?_ _ | refine blk_alloc ?_ _ | (refine blk_far ?_ (Nat.ne_of_lt (Nat.lt_succ_self _)) _)) | apply shape_five)) Tryd.underlying33 rfl (by kernel_rfl)) rfl ?_
  exact ⟨rfl, by repeat (with_reducible first | refine below_set ?_ (Nat.le_refl _) | refine below_set ?_ (Nat.le_succ _) | exact Below.refl _ _ | apply below_alloc | apply pw_below_drewN | apply below_drew1)⟩
set_option maxHeartbeats 4000000 in
set_option maxRecDepth 100000 in
theorem spec_l03First.v144 (w : World) :
    Calls Tryd.prog 51 #[.int .i64 144] w fun e w' => e = .returned (.agg #[.int .i64 (37), .int .i64 (14), .int .i64 (0), .bool (false), .int .i64 (0)]) ∧ Below w.heap.size w w' := by
  have C1 := Aside0.mk (show decide ((80 : Int) ≤ 144 ∧ (144 : Int) ≤ 87) = false from rfl)
  have C2 := Aside0.mk (show decide ((88 : Int) ≤ 144 ∧ (144 : Int) ≤ 95) = false from rfl)
  have C3 := Aside0.mk (show decide ((112 : Int) ≤ 144 ∧ (144 : Int) ≤ 127) = false from rfl)
  have C4 := Aside0.mk (show decide ((176 : Int) ≤ 144 ∧ (144 : Int) ≤ 191) = false from rfl)
  go_enter Tryd.func51, Tryd.ntmps51
  go_wp2_with (first | (go_at_call 36; refine (spec_l03First.in_ 144 _ _ _).mono ?_; rintro e w1 ⟨rfl, ⟨nd, rfl⟩⟩; first | rw [C1.out] | rw [C2.out] | rw [C3.out] | rw [C4.out]))
  refine bodyPost_ret (results_cell_row rfl _ _ w.heap.size 33 #[.int .i64 (37), .int .i64 (14), .int .i64 (0), .bool (false), .int .i64 (0)] (0, 0) _ rfl (by repeat (first | (with_reducible first | exact blk_new _ _ | refine blk_drewN ?_ _ | refine blk_alloc ?_ _ | (refine blk_far ?_ (Nat.ne_of_lt (Nat.lt_succ_self _)) _)) | apply shape_five)) Tryd.underlying33 rfl (by kernel_rfl)) rfl ?_
  exact ⟨rfl, by repeat (with_reducible first | refine below_set ?_ (Nat.le_refl _) | refine below_set ?_ (Nat.le_succ _) | exact Below.refl _ _ | apply below_alloc | apply pw_below_drewN | apply below_drew1)⟩
set_option maxHeartbeats 4000000 in
set_option maxRecDepth 100000 in
theorem spec_l03First.v152 (w : World) :
    Calls Tryd.prog 51 #[.int .i64 152] w fun e w' => e = .returned (.agg #[.int .i64 (39), .int .i64 (14), .int .i64 (0), .bool (false), .int .i64 (0)]) ∧ Below w.heap.size w w' := by
  have C1 := Aside0.mk (show decide ((80 : Int) ≤ 152 ∧ (152 : Int) ≤ 87) = false from rfl)
  have C2 := Aside0.mk (show decide ((88 : Int) ≤ 152 ∧ (152 : Int) ≤ 95) = false from rfl)
  have C3 := Aside0.mk (show decide ((112 : Int) ≤ 152 ∧ (152 : Int) ≤ 127) = false from rfl)
  have C4 := Aside0.mk (show decide ((176 : Int) ≤ 152 ∧ (152 : Int) ≤ 191) = false from rfl)
  go_enter Tryd.func51, Tryd.ntmps51
  go_wp2_with (first | (go_at_call 36; refine (spec_l03First.in_ 152 _ _ _).mono ?_; rintro e w1 ⟨rfl, ⟨nd, rfl⟩⟩; first | rw [C1.out] | rw [C2.out] | rw [C3.out] | rw [C4.out]))
  refine bodyPost_ret (results_cell_row rfl _ _ w.heap.size 33 #[.int .i64 (39), .int .i64 (14), .int .i64 (0), .bool (false), .int .i64 (0)] (0, 0) _ rfl (by repeat (first | (with_reducible first | exact blk_new _ _ | refine blk_drewN ?_ _ | refine blk_alloc ?_ _ | (refine blk_far ?_ (Nat.ne_of_lt (Nat.lt_succ_self _)) _)) | apply shape_five)) Tryd.underlying33 rfl (by kernel_rfl)) rfl ?_
  exact ⟨rfl, by repeat (with_reducible first | refine below_set ?_ (Nat.le_refl _) | refine below_set ?_ (Nat.le_succ _) | exact Below.refl _ _ | apply below_alloc | apply pw_below_drewN | apply below_drew1)⟩
set_option maxHeartbeats 4000000 in
set_option maxRecDepth 100000 in
theorem spec_l03First.v153 (w : World) :
    Calls Tryd.prog 51 #[.int .i64 153] w fun e w' => e = .returned (.agg #[.int .i64 (40), .int .i64 (14), .int .i64 (0), .bool (false), .int .i64 (0)]) ∧ Below w.heap.size w w' := by
  have C1 := Aside0.mk (show decide ((80 : Int) ≤ 153 ∧ (153 : Int) ≤ 87) = false from rfl)
  have C2 := Aside0.mk (show decide ((88 : Int) ≤ 153 ∧ (153 : Int) ≤ 95) = false from rfl)
  have C3 := Aside0.mk (show decide ((112 : Int) ≤ 153 ∧ (153 : Int) ≤ 127) = false from rfl)
  have C4 := Aside0.mk (show decide ((176 : Int) ≤ 153 ∧ (153 : Int) ≤ 191) = false from rfl)
  go_enter Tryd.func51, Tryd.ntmps51
  go_wp2_with (first | (go_at_call 36; refine (spec_l03First.in_ 153 _ _ _).mono ?_; rintro e w1 ⟨rfl, ⟨nd, rfl⟩⟩; first | rw [C1.out] | rw [C2.out] | rw [C3.out] | rw [C4.out]))
  refine bodyPost_ret (results_cell_row rfl _ _ w.heap.size 33 #[.int .i64 (40), .int .i64 (14), .int .i64 (0), .bool (false), .int .i64 (0)] (0, 0) _ rfl (by repeat (first | (with_reducible first | exact blk_new _ _ | refine blk_drewN ?_ _ | refine blk_alloc ?_ _ | (refine blk_far ?_ (Nat.ne_of_lt (Nat.lt_succ_self _)) _)) | apply shape_five)) Tryd.underlying33 rfl (by kernel_rfl)) rfl ?_
  exact ⟨rfl, by repeat (with_reducible first | refine below_set ?_ (Nat.le_refl _) | refine below_set ?_ (Nat.le_succ _) | exact Below.refl _ _ | apply below_alloc | apply pw_below_drewN | apply below_drew1)⟩
set_option maxHeartbeats 4000000 in
set_option maxRecDepth 100000 in
theorem spec_l03First.v164 (w : World) :
    Calls Tryd.prog 51 #[.int .i64 164] w fun e w' => e = .returned (.agg #[.int .i64 (42), .int .i64 (14), .int .i64 (0), .bool (true), .int .i64 (0)]) ∧ Below w.heap.size w w' := by
  have C1 := Aside0.mk (show decide ((80 : Int) ≤ 164 ∧ (164 : Int) ≤ 87) = false from rfl)
  have C2 := Aside0.mk (show decide ((88 : Int) ≤ 164 ∧ (164 : Int) ≤ 95) = false from rfl)
  have C3 := Aside0.mk (show decide ((112 : Int) ≤ 164 ∧ (164 : Int) ≤ 127) = false from rfl)
  have C4 := Aside0.mk (show decide ((176 : Int) ≤ 164 ∧ (164 : Int) ≤ 191) = false from rfl)
  go_enter Tryd.func51, Tryd.ntmps51
  go_wp2_with (first | (go_at_call 36; refine (spec_l03First.in_ 164 _ _ _).mono ?_; rintro e w1 ⟨rfl, ⟨nd, rfl⟩⟩; first | rw [C1.out] | rw [C2.out] | rw [C3.out] | rw [C4.out]))
  refine bodyPost_ret (results_cell_row rfl _ _ w.heap.size 33 #[.int .i64 (42), .int .i64 (14), .int .i64 (0), .bool (true), .int .i64 (0)] (0, 0) _ rfl (by repeat (first | (with_reducible first | exact blk_new _ _ | refine blk_drewN ?_ _ | refine blk_alloc ?_ _ | (refine blk_far ?_ (Nat.ne_of_lt (Nat.lt_succ_self _)) _)) | apply shape_five)) Tryd.underlying33 rfl (by kernel_rfl)) rfl ?_
  exact ⟨rfl, by repeat (with_reducible first | refine below_set ?_ (Nat.le_refl _) | refine below_set ?_ (Nat.le_succ _) | exact Below.refl _ _ | apply below_alloc | apply pw_below_drewN | apply below_drew1)⟩
set_option maxHeartbeats 4000000 in
set_option maxRecDepth 100000 in
theorem spec_l03First.v168 (w : World) :
    Calls Tryd.prog 51 #[.int .i64 168] w fun e w' => e = .returned (.agg #[.int .i64 (10), .int .i64 (3), .int .i64 (0), .bool (true), .int .i64 (0)]) ∧ Below w.heap.size w w' := by
  have C1 := Aside0.mk (show decide ((80 : Int) ≤ 168 ∧ (168 : Int) ≤ 87) = false from rfl)
  have C2 := Aside0.mk (show decide ((88 : Int) ≤ 168 ∧ (168 : Int) ≤ 95) = false from rfl)
  have C3 := Aside0.mk (show decide ((112 : Int) ≤ 168 ∧ (168 : Int) ≤ 127) = false from rfl)
  have C4 := Aside0.mk (show decide ((176 : Int) ≤ 168 ∧ (168 : Int) ≤ 191) = false from rfl)
  go_enter Tryd.func51, Tryd.ntmps51
  go_wp2_with (first | (go_at_call 36; refine (spec_l03First.in_ 168 _ _ _).mono ?_; rintro e w1 ⟨rfl, ⟨nd, rfl⟩⟩; first | rw [C1.out] | rw [C2.out] | rw [C3.out] | rw [C4.out]))
  refine bodyPost_ret (results_cell_row rfl _ _ w.heap.size 33 #[.int .i64 (10), .int .i64 (3), .int .i64 (0), .bool (true), .int .i64 (0)] (0, 0) _ rfl (by repeat (first | (with_reducible first | exact blk_new _ _ | refine blk_drewN ?_ _ | refine blk_alloc ?_ _ | (refine blk_far ?_ (Nat.ne_of_lt (Nat.lt_succ_self _)) _)) | apply shape_five)) Tryd.underlying33 rfl (by kernel_rfl)) rfl ?_
  exact ⟨rfl, by repeat (with_reducible first | refine below_set ?_ (Nat.le_refl _) | refine below_set ?_ (Nat.le_succ _) | exact Below.refl _ _ | apply below_alloc | apply pw_below_drewN | apply below_drew1)⟩
set_option maxHeartbeats 4000000 in
set_option maxRecDepth 100000 in
theorem spec_l03First.v169 (w : World) :
    Calls Tryd.prog 51 #[.int .i64 169] w fun e w' => e = .returned (.agg #[.int .i64 (10), .int .i64 (3), .int .i64 (0), .bool (false), .int .i64 (0)]) ∧ Below w.heap.size w w' := by
  have C1 := Aside0.mk (show decide ((80 : Int) ≤ 169 ∧ (169 : Int) ≤ 87) = false from rfl)
  have C2 := Aside0.mk (show decide ((88 : Int) ≤ 169 ∧ (169 : Int) ≤ 95) = false from rfl)
  have C3 := Aside0.mk (show decide ((112 : Int) ≤ 169 ∧ (169 : Int) ≤ 127) = false from rfl)
  have C4 := Aside0.mk (show decide ((176 : Int) ≤ 169 ∧ (169 : Int) ≤ 191) = false from rfl)
  go_enter Tryd.func51, Tryd.ntmps51
  go_wp2_with (first | (go_at_call 36; refine (spec_l03First.in_ 169 _ _ _).mono ?_; rintro e w1 ⟨rfl, ⟨nd, rfl⟩⟩; first | rw [C1.out] | rw [C2.out] | rw [C3.out] | rw [C4.out]))
  refine bodyPost_ret (results_cell_row rfl _ _ w.heap.size 33 #[.int .i64 (10), .int .i64 (3), .int .i64 (0), .bool (false), .int .i64 (0)] (0, 0) _ rfl (by repeat (first | (with_reducible first | exact blk_new _ _ | refine blk_drewN ?_ _ | refine blk_alloc ?_ _ | (refine blk_far ?_ (Nat.ne_of_lt (Nat.lt_succ_self _)) _)) | apply shape_five)) Tryd.underlying33 rfl (by kernel_rfl)) rfl ?_
  exact ⟨rfl, by repeat (with_reducible first | refine below_set ?_ (Nat.le_refl _) | refine below_set ?_ (Nat.le_succ _) | exact Below.refl _ _ | apply below_alloc | apply pw_below_drewN | apply below_drew1)⟩
set_option maxHeartbeats 4000000 in
set_option maxRecDepth 100000 in
theorem spec_l03First.v170 (w : World) :
    Calls Tryd.prog 51 #[.int .i64 170] w fun e w' => e = .returned (.agg #[.int .i64 (41), .int .i64 (14), .int .i64 (0), .bool (true), .int .i64 (0)]) ∧ Below w.heap.size w w' := by
  have C1 := Aside0.mk (show decide ((80 : Int) ≤ 170 ∧ (170 : Int) ≤ 87) = false from rfl)
  have C2 := Aside0.mk (show decide ((88 : Int) ≤ 170 ∧ (170 : Int) ≤ 95) = false from rfl)
  have C3 := Aside0.mk (show decide ((112 : Int) ≤ 170 ∧ (170 : Int) ≤ 127) = false from rfl)
  have C4 := Aside0.mk (show decide ((176 : Int) ≤ 170 ∧ (170 : Int) ≤ 191) = false from rfl)
  go_enter Tryd.func51, Tryd.ntmps51
  go_wp2_with (first | (go_at_call 36; refine (spec_l03First.in_ 170 _ _ _).mono ?_; rintro e w1 ⟨rfl, ⟨nd, rfl⟩⟩; first | rw [C1.out] | rw [C2.out] | rw [C3.out] | rw [C4.out]))
  refine bodyPost_ret (results_cell_row rfl _ _ w.heap.size 33 #[.int .i64 (41), .int .i64 (14), .int .i64 (0), .bool (true), .int .i64 (0)] (0, 0) _ rfl (by repeat (first | (with_reducible first | exact blk_new _ _ | refine blk_drewN ?_ _ | refine blk_alloc ?_ _ | (refine blk_far ?_ (Nat.ne_of_lt (Nat.lt_succ_self _)) _)) | apply shape_five)) Tryd.underlying33 rfl (by kernel_rfl)) rfl ?_
  exact ⟨rfl, by repeat (with_reducible first | refine below_set ?_ (Nat.le_refl _) | refine below_set ?_ (Nat.le_succ _) | exact Below.refl _ _ | apply below_alloc | apply pw_below_drewN | apply below_drew1)⟩
set_option maxHeartbeats 4000000 in
set_option maxRecDepth 100000 in
theorem spec_l03First.v192 (w : World) :
    Calls Tryd.prog 51 #[.int .i64 192] w fun e w' => e = .returned (.agg #[.int .i64 (0), .int .i64 (11), .int .i64 (2), .bool (true), .int .i64 (0)]) ∧ Below w.heap.size w w' := by
  have C1 := Aside0.mk (show decide ((80 : Int) ≤ 192 ∧ (192 : Int) ≤ 87) = false from rfl)
  have C2 := Aside0.mk (show decide ((88 : Int) ≤ 192 ∧ (192 : Int) ≤ 95) = false from rfl)
  have C3 := Aside0.mk (show decide ((112 : Int) ≤ 192 ∧ (192 : Int) ≤ 127) = false from rfl)
  have C4 := Aside0.mk (show decide ((176 : Int) ≤ 192 ∧ (192 : Int) ≤ 191) = false from rfl)
  go_enter Tryd.func51, Tryd.ntmps51
  go_wp2_with (first | (go_at_call 36; refine (spec_l03First.in_ 192 _ _ _).mono ?_; rintro e w1 ⟨rfl, ⟨nd, rfl⟩⟩; first | rw [C1.out] | rw [C2.out] | rw [C3.out] | rw [C4.out]))
  refine bodyPost_ret (results_cell_row rfl _ _ w.heap.size 33 #[.int .i64 (0), .int .i64 (11), .int .i64 (2), .bool (true), .int .i64 (0)] (0, 0) _ rfl (by repeat (first | (with_reducible first | exact blk_new _ _ | refine blk_drewN ?_ _ | refine blk_alloc ?_ _ | (refine blk_far ?_ (Nat.ne_of_lt (Nat.lt_succ_self _)) _)) | apply shape_five)) Tryd.underlying33 rfl (by kernel_rfl)) rfl ?_
  exact ⟨rfl, by repeat (with_reducible first | refine below_set ?_ (Nat.le_refl _) | refine below_set ?_ (Nat.le_succ _) | exact Below.refl _ _ | apply below_alloc | apply pw_below_drewN | apply below_drew1)⟩
set_option maxHeartbeats 4000000 in
set_option maxRecDepth 100000 in
theorem spec_l03First.v193 (w : World) :
    Calls Tryd.prog 51 #[.int .i64 193] w fun e w' => e = .returned (.agg #[.int .i64 (0), .int .i64 (11), .int .i64 (2), .bool (false), .int .i64 (0)]) ∧ Below w.heap.size w w' := by
  have C1 := Aside0.mk (show decide ((80 : Int) ≤ 193 ∧ (193 : Int) ≤ 87) = false from rfl)
  have C2 := Aside0.mk (show decide ((88 : Int) ≤ 193 ∧ (193 : Int) ≤ 95) = false from rfl)
  have C3 := Aside0.mk (show decide ((112 : Int) ≤ 193 ∧ (193 : Int) ≤ 127) = false from rfl)
  have C4 := Aside0.mk (show decide ((176 : Int) ≤ 193 ∧ (193 : Int) ≤ 191) = false from rfl)
  go_enter Tryd.func51, Tryd.ntmps51
  go_wp2_with (first | (go_at_call 36; refine (spec_l03First.in_ 193 _ _ _).mono ?_; rintro e w1 ⟨rfl, ⟨nd, rfl⟩⟩; first | rw [C1.out] | rw [C2.out] | rw [C3.out] | rw [C4.out]))
  refine bodyPost_ret (results_cell_row rfl _ _ w.heap.size 33 #[.int .i64 (0), .int .i64 (11), .int .i64 (2), .bool (false), .int .i64 (0)] (0, 0) _ rfl (by repeat (first | (with_reducible first | exact blk_new _ _ | refine blk_drewN ?_ _ | refine blk_alloc ?_ _ | (refine blk_far ?_ (Nat.ne_of_lt (Nat.lt_succ_self _)) _)) | apply shape_five)) Tryd.underlying33 rfl (by kernel_rfl)) rfl ?_
  exact ⟨rfl, by repeat (with_reducible first | refine below_set ?_ (Nat.le_refl _) | refine below_set ?_ (Nat.le_succ _) | exact Below.refl _ _ | apply below_alloc | apply pw_below_drewN | apply below_drew1)⟩
set_option maxHeartbeats 4000000 in
set_option maxRecDepth 100000 in
theorem spec_l03First.v195 (w : World) :
    Calls Tryd.prog 51 #[.int .i64 195] w fun e w' => e = .returned (.agg #[.int .i64 (34), .int .i64 (14), .int .i64 (0), .bool (false), .int .i64 (0)]) ∧ Below w.heap.size w w' := by
  have C1 := Aside0.mk (show decide ((80 : Int) ≤ 195 ∧ (195 : Int) ≤ 87) = false from rfl)
  have C2 := Aside0.mk (show decide ((88 : Int) ≤ 195 ∧ (195 : Int) ≤ 95) = false from rfl)
  have C3 := Aside0.mk (show decide ((112 : Int) ≤ 195 ∧ (195 : Int) ≤ 127) = false from rfl)
  have C4 := Aside0.mk (show decide ((176 : Int) ≤ 195 ∧ (195 : Int) ≤ 191) = false from rfl)
  go_enter Tryd.func51, Tryd.ntmps51
  go_wp2_with (first | (go_at_call 36; refine (spec_l03First.in_ 195 _ _ _).mono ?_; rintro e w1 ⟨rfl, ⟨nd, rfl⟩⟩; first | rw [C1.out] | rw [C2.out] | rw [C3.out] | rw [C4.out]))
  refine bodyPost_ret (results_cell_row rfl _ _ w.heap.size 33 #[.int .i64 (34), .int .i64 (14), .int .i64 (0), .bool (false), .int .i64 (0)] (0, 0) _ rfl (by repeat (first | (with_reducible first | exact blk_new _ _ | refine blk_drewN ?_ _ | refine blk_alloc ?_ _ | (refine blk_far ?_ (Nat.ne_of_lt (Nat.lt_succ_self _)) _)) | apply shape_five)) Tryd.underlying33 rfl (by kernel_rfl)) rfl ?_
  exact ⟨rfl, by repeat (with_reducible first | refine below_set ?_ (Nat.le_refl _) | refine below_set ?_ (Nat.le_succ _) | exact Below.refl _ _ | apply below_alloc | apply pw_below_drewN | apply below_drew1)⟩
set_option maxHeartbeats 4000000 in
set_option maxRecDepth 100000 in
theorem spec_l03First.v198 (w : World) :
    Calls Tryd.prog 51 #[.int .i64 198] w fun e w' => e = .returned (.agg #[.int .i64 (0), .int .i64 (5), .int .i64 (7), .bool (true), .int .i64 (0)]) ∧ Below w.heap.size w w' := by
  have C1 := Aside0.mk (show decide ((80 : Int) ≤ 198 ∧ (198 : Int) ≤ 87) = false from rfl)
  have C2 := Aside0.mk (show decide ((88 : Int) ≤ 198 ∧ (198 : Int) ≤ 95) = false from rfl)
  have C3 := Aside0.mk (show decide ((112 : Int) ≤ 198 ∧ (198 : Int) ≤ 127) = false from rfl)
  have C4 := Aside0.mk (show decide ((176 : Int) ≤ 198 ∧ (198 : Int) ≤ 191) = false from rfl)
  go_enter Tryd.func51, Tryd.ntmps51
  go_wp2_with (first | (go_at_call 36; refine (spec_l03First.in_ 198 _ _ _).mono ?_; rintro e w1 ⟨rfl, ⟨nd, rfl⟩⟩; first | rw [C1.out] | rw [C2.out] | rw [C3.out] | rw [C4.out]))
  refine bodyPost_ret (results_cell_row rfl _ _ w.heap.size 33 #[.int .i64 (0), .int .i64 (5), .int .i64 (7), .bool (true), .int .i64 (0)] (0, 0) _ rfl (by repeat (first | (with_reducible first | exact blk_new _ _ | refine blk_drewN ?_ _ | refine blk_alloc ?_ _ | (refine blk_far ?_ (Nat.ne_of_lt (Nat.lt_succ_self _)) _)) | apply shape_five)) Tryd.underlying33 rfl (by kernel_rfl)) rfl ?_
  exact ⟨rfl, by repeat (with_reducible first | refine below_set ?_ (Nat.le_refl _) | refine below_set ?_ (Nat.le_succ _) | exact Below.refl _ _ | apply below_alloc | apply pw_below_drewN | apply below_drew1)⟩
set_option maxHeartbeats 4000000 in
set_option maxRecDepth 100000 in
theorem spec_l03First.v199 (w : World) :
    Calls Tryd.prog 51 #[.int .i64 199] w fun e w' => e = .returned (.agg #[.int .i64 (0), .int .i64 (5), .int .i64 (7), .bool (false), .int .i64 (0)]) ∧ Below w.heap.size w w' := by
  have C1 := Aside0.mk (show decide ((80 : Int) ≤ 199 ∧ (199 : Int) ≤ 87) = false from rfl)
  have C2 := Aside0.mk (show decide ((88 : Int) ≤ 199 ∧ (199 : Int) ≤ 95) = false from rfl)
  have C3 := Aside0.mk (show decide ((112 : Int) ≤ 199 ∧ (199 : Int) ≤ 127) = false from rfl)
  have C4 := Aside0.mk (show decide ((176 : Int) ≤ 199 ∧ (199 : Int) ≤ 191) = false from rfl)
  go_enter Tryd.func51, Tryd.ntmps51
  go_wp2_with (first | (go_at_call 36; refine (spec_l03First.in_ 199 _ _ _).mono ?_; rintro e w1 ⟨rfl, ⟨nd, rfl⟩⟩; first | rw [C1.out] | rw [C2.out] | rw [C3.out] | rw [C4.out]))
  refine bodyPost_ret (results_cell_row rfl _ _ w.heap.size 33 #[.int .i64 (0), .int .i64 (5), .int .i64 (7), .bool (false), .int .i64 (0)] (0, 0) _ rfl (by repeat (first | (with_reducible first | exact blk_new _ _ | refine blk_drewN ?_ _ | refine blk_alloc ?_ _ | (refine blk_far ?_ (Nat.ne_of_lt (Nat.lt_succ_self _)) _)) | apply shape_five)) Tryd.underlying33 rfl (by kernel_rfl)) rfl ?_
  exact ⟨rfl, by repeat (with_reducible first | refine below_set ?_ (Nat.le_refl _) | refine below_set ?_ (Nat.le_succ _) | exact Below.refl _ _ | apply below_alloc | apply pw_below_drewN | apply below_drew1)⟩
set_option maxHeartbeats 4000000 in
set_option maxRecDepth 100000 in
theorem spec_l03First.v205 (w : World) :
    Calls Tryd.prog 51 #[.int .i64 205] w fun e w' => e = .returned (.agg #[.int .i64 (44), .int .i64 (15), .int .i64 (0), .bool (false), .int .i64 (0)]) ∧ Below w.heap.size w w' := by
  have C1 := Aside0.mk (show decide ((80 : Int) ≤ 205 ∧ (205 : Int) ≤ 87) = false from rfl)
  have C2 := Aside0.mk (show decide ((88 : Int) ≤ 205 ∧ (205 : Int) ≤ 95) = false from rfl)
  have C3 := Aside0.mk (show decide ((112 : Int) ≤ 205 ∧ (205 : Int) ≤ 127) = false from rfl)
  have C4 := Aside0.mk (show decide ((176 : Int) ≤ 205 ∧ (205 : Int) ≤ 191) = false from rfl)
  go_enter Tryd.func51, Tryd.ntmps51
  go_wp2_with (first | (go_at_call 36; refine (spec_l03First.in_ 205 _ _ _).mono ?_; rintro e w1 ⟨rfl, ⟨nd, rfl⟩⟩; first | rw [C1.out] | rw [C2.out] | rw [C3.out] | rw [C4.out]))
  refine bodyPost_ret (results_cell_row rfl _ _ w.heap.size 33 #[.int .i64 (44), .int .i64 (15), .int .i64 (0), .bool (false), .int .i64 (0)] (0, 0) _ rfl (by repeat (first | (with_reducible first | exact blk_new _ _ | refine blk_drewN ?_ _ | refine blk_alloc ?_ _ | (refine blk_far ?_ (Nat.ne_of_lt (Nat.lt_succ_self _)) _)) | apply shape_five)) Tryd.underlying33 rfl (by kernel_rfl)) rfl ?_
  exact ⟨rfl, by repeat (with_reducible first | refine below_set ?_ (Nat.le_refl _) | refine below_set ?_ (Nat.le_succ _) | exact Below.refl _ _ | apply below_alloc | apply pw_below_drewN | apply below_drew1)⟩
set_option maxHeartbeats 4000000 in
set_option maxRecDepth 100000 in
theorem spec_l03First.v208 (w : World) :
    Calls Tryd.prog 51 #[.int .i64 208] w fun e w' => e = .returned (.agg #[.int .i64 (0), .int .i64 (12), .int .i64 (2), .bool (true), .int .i64 (0)]) ∧ Below w.heap.size w w' := by
  have C1 := Aside0.mk (show decide ((80 : Int) ≤ 208 ∧ (208 : Int) ≤ 87) = false from rfl)
  have C2 := Aside0.mk (show decide ((88 : Int) ≤ 208 ∧ (208 : Int) ≤ 95) = false from rfl)
  have C3 := Aside0.mk (show decide ((112 : Int) ≤ 208 ∧ (208 : Int) ≤ 127) = false from rfl)
  have C4 := Aside0.mk (show decide ((176 : Int) ≤ 208 ∧ (208 : Int) ≤ 191) = false from rfl)
  go_enter Tryd.func51, Tryd.ntmps51
  go_wp2_with (first | (go_at_call 36; refine (spec_l03First.in_ 208 _ _ _).mono ?_; rintro e w1 ⟨rfl, ⟨nd, rfl⟩⟩; first | rw [C1.out] | rw [C2.out] | rw [C3.out] | rw [C4.out]))
  refine bodyPost_ret (results_cell_row rfl _ _ w.heap.size 33 #[.int .i64 (0), .int .i64 (12), .int .i64 (2), .bool (true), .int .i64 (0)] (0, 0) _ rfl (by repeat (first | (with_reducible first | exact blk_new _ _ | refine blk_drewN ?_ _ | refine blk_alloc ?_ _ | (refine blk_far ?_ (Nat.ne_of_lt (Nat.lt_succ_self _)) _)) | apply shape_five)) Tryd.underlying33 rfl (by kernel_rfl)) rfl ?_
  exact ⟨rfl, by repeat (with_reducible first | refine below_set ?_ (Nat.le_refl _) | refine below_set ?_ (Nat.le_succ _) | exact Below.refl _ _ | apply below_alloc | apply pw_below_drewN | apply below_drew1)⟩
set_option maxHeartbeats 4000000 in
set_option maxRecDepth 100000 in
theorem spec_l03First.v209 (w : World) :
    Calls Tryd.prog 51 #[.int .i64 209] w fun e w' => e = .returned (.agg #[.int .i64 (0), .int .i64 (12), .int .i64 (2), .bool (false), .int .i64 (0)]) ∧ Below w.heap.size w w' := by
  have C1 := Aside0.mk (show decide ((80 : Int) ≤ 209 ∧ (209 : Int) ≤ 87) = false from rfl)
  have C2 := Aside0.mk (show decide ((88 : Int) ≤ 209 ∧ (209 : Int) ≤ 95) = false from rfl)
  have C3 := Aside0.mk (show decide ((112 : Int) ≤ 209 ∧ (209 : Int) ≤ 127) = false from rfl)
  have C4 := Aside0.mk (show decide ((176 : Int) ≤ 209 ∧ (209 : Int) ≤ 191) = false from rfl)
  go_enter Tryd.func51, Tryd.ntmps51
  go_wp2_with (first | (go_at_call 36; refine (spec_l03First.in_ 209 _ _ _).mono ?_; rintro e w1 ⟨rfl, ⟨nd, rfl⟩⟩; first | rw [C1.out] | rw [C2.out] | rw [C3.out] | rw [C4.out]))
  refine bodyPost_ret (results_cell_row rfl _ _ w.heap.size 33 #[.int .i64 (0), .int .i64 (12), .int .i64 (2), .bool (false), .int .i64 (0)] (0, 0) _ rfl (by repeat (first | (with_reducible first | exact blk_new _ _ | refine blk_drewN ?_ _ | refine blk_alloc ?_ _ | (refine blk_far ?_ (Nat.ne_of_lt (Nat.lt_succ_self _)) _)) | apply shape_five)) Tryd.underlying33 rfl (by kernel_rfl)) rfl ?_
  exact ⟨rfl, by repeat (with_reducible first | refine below_set ?_ (Nat.le_refl _) | refine below_set ?_ (Nat.le_succ _) | exact Below.refl _ _ | apply below_alloc | apply pw_below_drewN | apply below_drew1)⟩
set_option maxHeartbeats 4000000 in
set_option maxRecDepth 100000 in
theorem spec_l03First.v210 (w : World) :
    Calls Tryd.prog 51 #[.int .i64 210] w fun e w' => e = .returned (.agg #[.int .i64 (0), .int .i64 (13), .int .i64 (2), .bool (true), .int .i64 (0)]) ∧ Below w.heap.size w w' := by
  have C1 := Aside0.mk (show decide ((80 : Int) ≤ 210 ∧ (210 : Int) ≤ 87) = false from rfl)
  have C2 := Aside0.mk (show decide ((88 : Int) ≤ 210 ∧ (210 : Int) ≤ 95) = false from rfl)
  have C3 := Aside0.mk (show decide ((112 : Int) ≤ 210 ∧ (210 : Int) ≤ 127) = false from rfl)
  have C4 := Aside0.mk (show decide ((176 : Int) ≤ 210 ∧ (210 : Int) ≤ 191) = false from rfl)
  go_enter Tryd.func51, Tryd.ntmps51
  go_wp2_with (first | (go_at_call 36; refine (spec_l03First.in_ 210 _ _ _).mono ?_; rintro e w1 ⟨rfl, ⟨nd, rfl⟩⟩; first | rw [C1.out] | rw [C2.out] | rw [C3.out] | rw [C4.out]))
  refine bodyPost_ret (results_cell_row rfl _ _ w.heap.size 33 #[.int .i64 (0), .int .i64 (13), .int .i64 (2), .bool (true), .int .i64 (0)] (0, 0) _ rfl (by repeat (first | (with_reducible first | exact blk_new _ _ | refine blk_drewN ?_ _ | refine blk_alloc ?_ _ | (refine blk_far ?_ (Nat.ne_of_lt (Nat.lt_succ_self _)) _)) | apply shape_five)) Tryd.underlying33 rfl (by kernel_rfl)) rfl ?_
  exact ⟨rfl, by repeat (with_reducible first | refine below_set ?_ (Nat.le_refl _) | refine below_set ?_ (Nat.le_succ _) | exact Below.refl _ _ | apply below_alloc | apply pw_below_drewN | apply below_drew1)⟩
set_option maxHeartbeats 4000000 in
set_option maxRecDepth 100000 in
theorem spec_l03First.v211 (w : World) :
    Calls Tryd.prog 51 #[.int .i64 211] w fun e w' => e = .returned (.agg #[.int .i64 (0), .int .i64 (13), .int .i64 (2), .bool (false), .int .i64 (0)]) ∧ Below w.heap.size w w' := by
  have C1 := Aside0.mk (show decide ((80 : Int) ≤ 211 ∧ (211 : Int) ≤ 87) = false from rfl)
  have C2 := Aside0.mk (show decide ((88 : Int) ≤ 211 ∧ (211 : Int) ≤ 95) = false from rfl)
  have C3 := Aside0.mk (show decide ((112 : Int) ≤ 211 ∧ (211 : Int) ≤ 127) = false from rfl)
  have C4 := Aside0.mk (show decide ((176 : Int) ≤ 211 ∧ (211 : Int) ≤ 191) = false from rfl)
  go_enter Tryd.func51, Tryd.ntmps51
  go_wp2_with (first | (go_at_call 36; refine (spec_l03First.in_ 211 _ _ _).mono ?_; rintro e w1 ⟨rfl, ⟨nd, rfl⟩⟩; first | rw [C1.out] | rw [C2.out] | rw [C3.out] | rw [C4.out]))
  refine bodyPost_ret (results_cell_row rfl _ _ w.heap.size 33 #[.int .i64 (0), .int .i64 (13), .int .i64 (2), .bool (false), .int .i64 (0)] (0, 0) _ rfl (by repeat (first | (with_reducible first | exact blk_new _ _ | refine blk_drewN ?_ _ | refine blk_alloc ?_ _ | (refine blk_far ?_ (Nat.ne_of_lt (Nat.lt_succ_self _)) _)) | apply shape_five)) Tryd.underlying33 rfl (by kernel_rfl)) rfl ?_
  exact ⟨rfl, by repeat (with_reducible first | refine below_set ?_ (Nat.le_refl _) | refine below_set ?_ (Nat.le_succ _) | exact Below.refl _ _ | apply below_alloc | apply pw_below_drewN | apply below_drew1)⟩
set_option maxHeartbeats 4000000 in
set_option maxRecDepth 100000 in
theorem spec_l03First.v232 (w : World) :
    Calls Tryd.prog 51 #[.int .i64 232] w fun e w' => e = .returned (.agg #[.int .i64 (31), .int .i64 (10), .int .i64 (0), .bool (false), .int .i64 (0)]) ∧ Below w.heap.size w w' := by
  have C1 := Aside0.mk (show decide ((80 : Int) ≤ 232 ∧ (232 : Int) ≤ 87) = false from rfl)
  have C2 := Aside0.mk (show decide ((88 : Int) ≤ 232 ∧ (232 : Int) ≤ 95) = false from rfl)
  have C3 := Aside0.mk (show decide ((112 : Int) ≤ 232 ∧ (232 : Int) ≤ 127) = false from rfl)
  have C4 := Aside0.mk (show decide ((176 : Int) ≤ 232 ∧ (232 : Int) ≤ 191) = false from rfl)
  go_enter Tryd.func51, Tryd.ntmps51
  go_wp2_with (first | (go_at_call 36; refine (spec_l03First.in_ 232 _ _ _).mono ?_; rintro e w1 ⟨rfl, ⟨nd, rfl⟩⟩; first | rw [C1.out] | rw [C2.out] | rw [C3.out] | rw [C4.out]))
  refine bodyPost_ret (results_cell_row rfl _ _ w.heap.size 33 #[.int .i64 (31), .int .i64 (10), .int .i64 (0), .bool (false), .int .i64 (0)] (0, 0) _ rfl (by repeat (first | (with_reducible first | exact blk_new _ _ | refine blk_drewN ?_ _ | refine blk_alloc ?_ _ | (refine blk_far ?_ (Nat.ne_of_lt (Nat.lt_succ_self _)) _)) | apply shape_five)) Tryd.underlying33 rfl (by kernel_rfl)) rfl ?_
  exact ⟨rfl, by repeat (with_reducible first | refine below_set ?_ (Nat.le_refl _) | refine below_set ?_ (Nat.le_succ _) | exact Below.refl _ _ | apply below_alloc | apply pw_below_drewN | apply below_drew1)⟩
set_option maxHeartbeats 4000000 in
set_option maxRecDepth 100000 in
theorem spec_l03First.v233 (w : World) :
    Calls Tryd.prog 51 #[.int .i64 233] w fun e w' => e = .returned (.agg #[.int .i64 (32), .int .i64 (10), .int .i64 (0), .bool (false), .int .i64 (0)]) ∧ Below w.heap.size w w' := by
  have C1 := Aside0.mk (show decide ((80 : Int) ≤ 233 ∧ (233 : Int) ≤ 87) = false from rfl)
  have C2 := Aside0.mk (show decide ((88 : Int) ≤ 233 ∧ (233 : Int) ≤ 95) = false from rfl)
  have C3 := Aside0.mk (show decide ((112 : Int) ≤ 233 ∧ (233 : Int) ≤ 127) = false from rfl)
  have C4 := Aside0.mk (show decide ((176 : Int) ≤ 233 ∧ (233 : Int) ≤ 191) = false from rfl)
  go_enter Tryd.func51, Tryd.ntmps51
  go_wp2_with (first | (go_at_call 36; refine (spec_l03First.in_ 233 _ _ _).mono ?_; rintro e w1 ⟨rfl, ⟨nd, rfl⟩⟩; first | rw [C1.out] | rw [C2.out] | rw [C3.out] | rw [C4.out]))
  refine bodyPost_ret (results_cell_row rfl _ _ w.heap.size 33 #[.int .i64 (32), .int .i64 (10), .int .i64 (0), .bool (false), .int .i64 (0)] (0, 0) _ rfl (by repeat (first | (with_reducible first | exact blk_new _ _ | refine blk_drewN ?_ _ | refine blk_alloc ?_ _ | (refine blk_far ?_ (Nat.ne_of_lt (Nat.lt_succ_self _)) _)) | apply shape_five)) Tryd.underlying33 rfl (by kernel_rfl)) rfl ?_
  exact ⟨rfl, by repeat (with_reducible first | refine below_set ?_ (Nat.le_refl _) | refine below_set ?_ (Nat.le_succ _) | exact Below.refl _ _ | apply below_alloc | apply pw_below_drewN | apply below_drew1)⟩
set_option maxHeartbeats 4000000 in
set_option maxRecDepth 100000 in
theorem spec_l03First.v235 (w : World) :
    Calls Tryd.prog 51 #[.int .i64 235] w fun e w' => e = .returned (.agg #[.int .i64 (32), .int .i64 (9), .int .i64 (0), .bool (false), .int .i64 (0)]) ∧ Below w.heap.size w w' := by
  have C1 := Aside0.mk (show decide ((80 : Int) ≤ 235 ∧ (235 : Int) ≤ 87) = false from rfl)
  have C2 := Aside0.mk (show decide ((88 : Int) ≤ 235 ∧ (235 : Int) ≤ 95) = false from rfl)
  have C3 := Aside0.mk (show decide ((112 : Int) ≤ 235 ∧ (235 : Int) ≤ 127) = false from rfl)
  have C4 := Aside0.mk (show decide ((176 : Int) ≤ 235 ∧ (235 : Int) ≤ 191) = false from rfl)
  go_enter Tryd.func51, Tryd.ntmps51
  go_wp2_with (first | (go_at_call 36; refine (spec_l03First.in_ 235 _ _ _).mono ?_; rintro e w1 ⟨rfl, ⟨nd, rfl⟩⟩; first | rw [C1.out] | rw [C2.out] | rw [C3.out] | rw [C4.out]))
  refine bodyPost_ret (results_cell_row rfl _ _ w.heap.size 33 #[.int .i64 (32), .int .i64 (9), .int .i64 (0), .bool (false), .int .i64 (0)] (0, 0) _ rfl (by repeat (first | (with_reducible first | exact blk_new _ _ | refine blk_drewN ?_ _ | refine blk_alloc ?_ _ | (refine blk_far ?_ (Nat.ne_of_lt (Nat.lt_succ_self _)) _)) | apply shape_five)) Tryd.underlying33 rfl (by kernel_rfl)) rfl ?_
  exact ⟨rfl, by repeat (with_reducible first | refine below_set ?_ (Nat.le_refl _) | refine below_set ?_ (Nat.le_succ _) | exact Below.refl _ _ | apply below_alloc | apply pw_below_drewN | apply below_drew1)⟩
set_option maxHeartbeats 4000000 in
set_option maxRecDepth 100000 in
theorem spec_l03First.v244 (w : World) :
    Calls Tryd.prog 51 #[.int .i64 244] w fun e w' => e = .returned (.agg #[.int .i64 (38), .int .i64 (14), .int .i64 (0), .bool (false), .int .i64 (0)]) ∧ Below w.heap.size w w' := by
  have C1 := Aside0.mk (show decide ((80 : Int) ≤ 244 ∧ (244 : Int) ≤ 87) = false from rfl)
  have C2 := Aside0.mk (show decide ((88 : Int) ≤ 244 ∧ (244 : Int) ≤ 95) = false from rfl)
  have C3 := Aside0.mk (show decide ((112 : Int) ≤ 244 ∧ (244 : Int) ≤ 127) = false from rfl)
  have C4 := Aside0.mk (show decide ((176 : Int) ≤ 244 ∧ (244 : Int) ≤ 191) = false from rfl)
  go_enter Tryd.func51, Tryd.ntmps51
  go_wp2_with (first | (go_at_call 36; refine (spec_l03First.in_ 244 _ _ _).mono ?_; rintro e w1 ⟨rfl, ⟨nd, rfl⟩⟩; first | rw [C1.out] | rw [C2.out] | rw [C3.out] | rw [C4.out]))
  refine bodyPost_ret (results_cell_row rfl _ _ w.heap.size 33 #[.int .i64 (38), .int .i64 (14), .int .i64 (0), .bool (false), .int .i64 (0)] (0, 0) _ rfl (by repeat (first | (with_reducible first | exact blk_new _ _ | refine blk_drewN ?_ _ | refine blk_alloc ?_ _ | (refine blk_far ?_ (Nat.ne_of_lt (Nat.lt_succ_self _)) _)) | apply shape_five)) Tryd.underlying33 rfl (by kernel_rfl)) rfl ?_
  exact ⟨rfl, by repeat (with_reducible first | refine below_set ?_ (Nat.le_refl _) | refine below_set ?_ (Nat.le_succ _) | exact Below.refl _ _ | apply below_alloc | apply pw_below_drewN | apply below_drew1)⟩
set_option maxHeartbeats 4000000 in
set_option maxRecDepth 100000 in
theorem spec_l03First.v246 (w : World) :
    Calls Tryd.prog 51 #[.int .i64 246] w fun e w' => e = .returned (.agg #[.int .i64 (0), .int .i64 (6), .int .i64 (3), .bool (true), .int .i64 (0)]) ∧ Below w.heap.size w w' := by
  have C1 := Aside0.mk (show decide ((80 : Int) ≤ 246 ∧ (246 : Int) ≤ 87) = false from rfl)
  have C2 := Aside0.mk (show decide ((88 : Int) ≤ 246 ∧ (246 : Int) ≤ 95) = false from rfl)
  have C3 := Aside0.mk (show decide ((112 : Int) ≤ 246 ∧ (246 : Int) ≤ 127) = false from rfl)
  have C4 := Aside0.mk (show decide ((176 : Int) ≤ 246 ∧ (246 : Int) ≤ 191) = false from rfl)
  go_enter Tryd.func51, Tryd.ntmps51
  go_wp2_with (first | (go_at_call 36; refine (spec_l03First.in_ 246 _ _ _).mono ?_; rintro e w1 ⟨rfl, ⟨nd, rfl⟩⟩; first | rw [C1.out] | rw [C2.out] | rw [C3.out] | rw [C4.out]))
  refine bodyPost_ret (results_cell_row rfl _ _ w.heap.size 33 #[.int .i64 (0), .int .i64 (6), .int .i64 (3), .bool (true), .int .i64 (0)] (0, 0) _ rfl (by repeat (first | (with_reducible first | exact blk_new _ _ | refine blk_drewN ?_ _ | refine blk_alloc ?_ _ | (refine blk_far ?_ (Nat.ne_of_lt (Nat.lt_succ_self _)) _)) | apply shape_five)) Tryd.underlying33 rfl (by kernel_rfl)) rfl ?_
  exact ⟨rfl, by repeat (with_reducible first | refine below_set ?_ (Nat.le_refl _) | refine below_set ?_ (Nat.le_succ _) | exact Below.refl _ _ | apply below_alloc | apply pw_below_drewN | apply below_drew1)⟩
set_option maxHeartbeats 4000000 in
set_option maxRecDepth 100000 in
theorem spec_l03First.v247 (w : World) :
    Calls Tryd.prog 51 #[.int .i64 247] w fun e w' => e = .returned (.agg #[.int .i64 (0), .int .i64 (6), .int .i64 (3), .bool (false), .int .i64 (0)]) ∧ Below w.heap.size w w' := by
  have C1 := Aside0.mk (show decide ((80 : Int) ≤ 247 ∧ (247 : Int) ≤ 87) = false from rfl)
  have C2 := Aside0.mk (show decide ((88 : Int) ≤ 247 ∧ (247 : Int) ≤ 95) = false from rfl)
  have C3 := Aside0.mk (show decide ((112 : Int) ≤ 247 ∧ (247 : Int) ≤ 127) = false from rfl)
  have C4 := Aside0.mk (show decide ((176 : Int) ≤ 247 ∧ (247 : Int) ≤ 191) = false from rfl)
  go_enter Tryd.func51, Tryd.ntmps51
  go_wp2_with (first | (go_at_call 36; refine (spec_l03First.in_ 247 _ _ _).mono ?_; rintro e w1 ⟨rfl, ⟨nd, rfl⟩⟩; first | rw [C1.out] | rw [C2.out] | rw [C3.out] | rw [C4.out]))
  refine bodyPost_ret (results_cell_row rfl _ _ w.heap.size 33 #[.int .i64 (0), .int .i64 (6), .int .i64 (3), .bool (false), .int .i64 (0)] (0, 0) _ rfl (by repeat (first | (with_reducible first | exact blk_new _ _ | refine blk_drewN ?_ _ | refine blk_alloc ?_ _ | (refine blk_far ?_ (Nat.ne_of_lt (Nat.lt_succ_self _)) _)) | apply shape_five)) Tryd.underlying33 rfl (by kernel_rfl)) rfl ?_
  exact ⟨rfl, by repeat (with_reducible first | refine below_set ?_ (Nat.le_refl _) | refine below_set ?_ (Nat.le_succ _) | exact Below.refl _ _ | apply below_alloc | apply pw_below_drewN | apply below_drew1)⟩
set_option maxHeartbeats 4000000 in
set_option maxRecDepth 100000 in
theorem spec_l03First.v254 (w : World) :
    Calls Tryd.prog 51 #[.int .i64 254] w fun e w' => e = .returned (.agg #[.int .i64 (0), .int .i64 (6), .int .i64 (4), .bool (true), .int .i64 (0)]) ∧ Below w.heap.size w w' := by
  have C1 := Aside0.mk (show decide ((80 : Int) ≤ 254 ∧ (254 : Int) ≤ 87) = false from rfl)
  have C2 := Aside0.mk (show decide ((88 : Int) ≤ 254 ∧ (254 : Int) ≤ 95) = false from rfl)
  have C3 := Aside0.mk (show decide ((112 : Int) ≤ 254 ∧ (254 : Int) ≤ 127) = false from rfl)
  have C4 := Aside0.mk (show decide ((176 : Int) ≤ 254 ∧ (254 : Int) ≤ 191) = false from rfl)
  go_enter Tryd.func51, Tryd.ntmps51
  go_wp2_with (first | (go_at_call 36; refine (spec_l03First.in_ 254 _ _ _).mono ?_; rintro e w1 ⟨rfl, ⟨nd, rfl⟩⟩; first | rw [C1.out] | rw [C2.out] | rw [C3.out] | rw [C4.out]))
  refine bodyPost_ret (results_cell_row rfl _ _ w.heap.size 33 #[.int .i64 (0), .int .i64 (6), .int .i64 (4), .bool (true), .int .i64 (0)] (0, 0) _ rfl (by repeat (first | (with_reducible first | exact blk_new _ _ | refine blk_drewN ?_ _ | refine blk_alloc ?_ _ | (refine blk_far ?_ (Nat.ne_of_lt (Nat.lt_succ_self _)) _)) | apply shape_five)) Tryd.underlying33 rfl (by kernel_rfl)) rfl ?_
  exact ⟨rfl, by repeat (with_reducible first | refine below_set ?_ (Nat.le_refl _) | refine below_set ?_ (Nat.le_succ _) | exact Below.refl _ _ | apply below_alloc | apply pw_below_drewN | apply below_drew1)⟩
set_option maxHeartbeats 4000000 in
set_option maxRecDepth 100000 in
theorem spec_l03First.v255 (w : World) :
    Calls Tryd.prog 51 #[.int .i64 255] w fun e w' => e = .returned (.agg #[.int .i64 (0), .int .i64 (6), .int .i64 (5), .bool (false), .int .i64 (0)]) ∧ Below w.heap.size w w' := by
  have C1 := Aside0.mk (show decide ((80 : Int) ≤ 255 ∧ (255 : Int) ≤ 87) = false from rfl)
  have C2 := Aside0.mk (show decide ((88 : Int) ≤ 255 ∧ (255 : Int) ≤ 95) = false from rfl)
  have C3 := Aside0.mk (show decide ((112 : Int) ≤ 255 ∧ (255 : Int) ≤ 127) = false from rfl)
  have C4 := Aside0.mk (show decide ((176 : Int) ≤ 255 ∧ (255 : Int) ≤ 191) = false from rfl)
  go_enter Tryd.func51, Tryd.ntmps51
  go_wp2_with (first | (go_at_call 36; refine (spec_l03First.in_ 255 _ _ _).mono ?_; rintro e w1 ⟨rfl, ⟨nd, rfl⟩⟩; first | rw [C1.out] | rw [C2.out] | rw [C3.out] | rw [C4.out]))
  refine bodyPost_ret (results_cell_row rfl _ _ w.heap.size 33 #[.int .i64 (0), .int .i64 (6), .int .i64 (5), .bool (false), .int .i64 (0)] (0, 0) _ rfl (by repeat (first | (with_reducible first | exact blk_new _ _ | refine blk_drewN ?_ _ | refine blk_alloc ?_ _ | (refine blk_far ?_ (Nat.ne_of_lt (Nat.lt_succ_self _)) _)) | apply shape_five)) Tryd.underlying33 rfl (by kernel_rfl)) rfl ?_
  exact ⟨rfl, by repeat (with_reducible first | refine below_set ?_ (Nat.le_refl _) | refine below_set ?_ (Nat.le_succ _) | exact Below.refl _ _ | apply below_alloc | apply pw_below_drewN | apply below_drew1)⟩
set_option maxHeartbeats 4000000 in
set_option maxRecDepth 100000 in
theorem spec_l03First.else1 (b : Int) (h0 : 64 ≤ b) (h1 : ¬ (80 ≤ b ∧ b ≤ 87)) (h2 : ¬ (88 ≤ b ∧ b ≤ 95)) (h3 : ¬ (112 ≤ b ∧ b ≤ 127)) (h4 : ¬ (176 ≤ b ∧ b ≤ 191)) (e99 : b ≠ 99) (e104 : b ≠ 104) (e106 : b ≠ 106) (e128 : b ≠ 128) (e129 : b ≠ 129) (e131 : b ≠ 131) (e132 : b ≠ 132) (e133 : b ≠ 133) (e134 : b ≠ 134) (e135 : b ≠ 135) (e136 : b ≠ 136) (e137 : b ≠ 137) (e138 : b ≠ 138) (e139 : b ≠ 139) (e141 : b ≠ 141) (e143 : b ≠ 143) (e144 : b ≠ 144) (e152 : b ≠ 152) (e153 : b ≠ 153) (e164 : b ≠ 164) (e168 : b ≠ 168) (e169 : b ≠ 169) (e170 : b ≠ 170) (e192 : b ≠ 192) (e193 : b ≠ 193) (e195 : b ≠ 195) (e198 : b ≠ 198) (e199 : b ≠ 199) (e205 : b ≠ 205) (e208 : b ≠ 208) (e209 : b ≠ 209) (e210 : b ≠ 210) (e211 : b ≠ 211) (e232 : b ≠ 232) (e233 : b ≠ 233) (e235 : b ≠ 235) (e244 : b ≠ 244) (e246 : b ≠ 246) (e247 : b ≠ 247) (e254 : b ≠ 254) (e255 : b ≠ 255) (w : World) :
    Calls Tryd.prog 51 #[.int .i64 b] w fun e w' => e = .returned (.agg #[.int .i64 (0), .int .i64 (0), .int .i64 (0), .bool (false), .int .i64 (0)]) ∧ Below w.heap.size w w' := by
  have d0 : decide (b < 64) = false := decide_eq_false (by omega)
  have C1 := Aside0.mk (decide_eq_false h1)
  have C2 := Aside0.mk (decide_eq_false h2)
  have C3 := Aside0.mk (decide_eq_false h3)
  have C4 := Aside0.mk (decide_eq_false h4)
  have n99 : (b == 99) = false := beq_eq_false_iff_ne.mpr e99
  have n104 : (b == 104) = false := beq_eq_false_iff_ne.mpr e104
  have n106 : (b == 106) = false := beq_eq_false_iff_ne.mpr e106
  have n128 : (b == 128) = false := beq_eq_false_iff_ne.mpr e128
  have n129 : (b == 129) = false := beq_eq_false_iff_ne.mpr e129
  have n131 : (b == 131) = false := beq_eq_false_iff_ne.mpr e131
  have n132 : (b == 132) = false := beq_eq_false_iff_ne.mpr e132
  have n133 : (b == 133) = false := beq_eq_false_iff_ne.mpr e133
  have n134 : (b == 134) = false := beq_eq_false_iff_ne.mpr e134
  have n135 : (b == 135) = false := beq_eq_false_iff_ne.mpr e135
  have n136 : (b == 136) = false := beq_eq_false_iff_ne.mpr e136
  have n137 : (b == 137) = false := beq_eq_false_iff_ne.mpr e137
  have n138 : (b == 138) = false := beq_eq_false_iff_ne.mpr e138
  have n139 : (b == 139) = false := beq_eq_false_iff_ne.mpr e139
  have n141 : (b == 141) = false := beq_eq_false_iff_ne.mpr e141
  have n143 : (b == 143) = false := beq_eq_false_iff_ne.mpr e143
  have n144 : (b == 144) = false := beq_eq_false_iff_ne.mpr e144
  have n152 : (b == 152) = false := beq_eq_false_iff_ne.mpr e152
  have n153 : (b == 153) = false := beq_eq_false_iff_ne.mpr e153
  have n164 : (b == 164) = false := beq_eq_false_iff_ne.mpr e164
  have n168 : (b == 168) = false := beq_eq_false_iff_ne.mpr e168
  have n169 : (b == 169) = false := beq_eq_false_iff_ne.mpr e169
  have n170 : (b == 170) = false := beq_eq_false_iff_ne.mpr e170
  have n192 : (b == 192) = false := beq_eq_false_iff_ne.mpr e192
  have n193 : (b == 193) = false := beq_eq_false_iff_ne.mpr e193
  have n195 : (b == 195) = false := beq_eq_false_iff_ne.mpr e195
  have n198 : (b == 198) = false := beq_eq_false_iff_ne.mpr e198
  have n199 : (b == 199) = false := beq_eq_false_iff_ne.mpr e199
  have n205 : (b == 205) = false := beq_eq_false_iff_ne.mpr e205
  have n208 : (b == 208) = false := beq_eq_false_iff_ne.mpr e208
  have n209 : (b == 209) = false := beq_eq_false_iff_ne.mpr e209
  have n210 : (b == 210) = false := beq_eq_false_iff_ne.mpr e210
  have n211 : (b == 211) = false := beq_eq_false_iff_ne.mpr e211
  have n232 : (b == 232) = false := beq_eq_false_iff_ne.mpr e232
  have n233 : (b == 233) = false := beq_eq_false_iff_ne.mpr e233
  have n235 : (b == 235) = false := beq_eq_false_iff_ne.mpr e235
  have n244 : (b == 244) = false := beq_eq_false_iff_ne.mpr e244
  have n246 : (b == 246) = false := beq_eq_false_iff_ne.mpr e246
  have n247 : (b == 247) = false := beq_eq_false_iff_ne.mpr e247
  have n254 : (b == 254) = false := beq_eq_false_iff_ne.mpr e254
  have n255 : (b == 255) = false := beq_eq_false_iff_ne.mpr e255
  clear e99 e104 e106 e128 e129 e131 e132 e133 e134 e135 e136 e137 e138 e139 e141 e143 e144 e152 e153 e164 e168 e169 e170 e192 e193 e195 e198 e199 e205 e208 e209 e210 e211 e232 e233 e235 e244 e246 e247 e254 e255
  clear h1 h2 h3 h4
  go_enter Tryd.func51, Tryd.ntmps51
  go_wp2_with (first | (go_at_call 36; refine (spec_l03First.in_ b _ _ _).mono ?_; rintro e w1 ⟨rfl, ⟨nd, rfl⟩⟩; first | rw [C1.out] | rw [C2.out] | rw [C3.out] | rw [C4.out]))
  refine bodyPost_ret (results_cell_row rfl _ _ w.heap.size 33 #[.int .i64 (0), .int .i64 (0), .int .i64 (0), .bool (false), .int .i64 (0)] (0, 0) _ rfl (by repeat (first | (with_reducible first | exact blk_new _ _ | refine blk_drewN ?_ _ | refine blk_alloc ?_ _ | (refine blk_far ?_ (Nat.ne_of_lt (Nat.lt_succ_self _)) _)) | apply shape_five)) Tryd.underlying33 rfl (by kernel_rfl)) rfl ?_
  exact ⟨rfl, by repeat (with_reducible first | refine below_set ?_ (Nat.le_refl _) | refine below_set ?_ (Nat.le_succ _) | exact Below.refl _ _ | apply below_alloc | apply pw_below_drewN | apply below_drew1)⟩
set_option maxHeartbeats 4000000 in
set_option maxRecDepth 100000 in
theorem spec_l03First.else2 (b : Int) (h0 : 0 ≤ b) (h5 : b < 64) (h6 : ¬ b % 8 < 6) (h1 : ¬ (80 ≤ b ∧ b ≤ 87)) (h2 : ¬ (88 ≤ b ∧ b ≤ 95)) (h3 : ¬ (112 ≤ b ∧ b ≤ 127)) (h4 : ¬ (176 ≤ b ∧ b ≤ 191)) (e99 : b ≠ 99) (e104 : b ≠ 104) (e106 : b ≠ 106) (e128 : b ≠ 128) (e129 : b ≠ 129) (e131 : b ≠ 131) (e132 : b ≠ 132) (e133 : b ≠ 133) (e134 : b ≠ 134) (e135 : b ≠ 135) (e136 : b ≠ 136) (e137 : b ≠ 137) (e138 : b ≠ 138) (e139 : b ≠ 139) (e141 : b ≠ 141) (e143 : b ≠ 143) (e144 : b ≠ 144) (e152 : b ≠ 152) (e153 : b ≠ 153) (e164 : b ≠ 164) (e168 : b ≠ 168) (e169 : b ≠ 169) (e170 : b ≠ 170) (e192 : b ≠ 192) (e193 : b ≠ 193) (e195 : b ≠ 195) (e198 : b ≠ 198) (e199 : b ≠ 199) (e205 : b ≠ 205) (e208 : b ≠ 208) (e209 : b ≠ 209) (e210 : b ≠ 210) (e211 : b ≠ 211) (e232 : b ≠ 232) (e233 : b ≠ 233) (e235 : b ≠ 235) (e244 : b ≠ 244) (e246 : b ≠ 246) (e247 : b ≠ 247) (e254 : b ≠ 254) (e255 : b ≠ 255) (w : World) :
    Calls Tryd.prog 51 #[.int .i64 b] w fun e w' => e = .returned (.agg #[.int .i64 (0), .int .i64 (0), .int .i64 (0), .bool (false), .int .i64 (0)]) ∧ Below w.heap.size w w' := by
  have d0 : decide (b < 64) = true := decide_eq_true h5
  have d1 : decide (b % 8 < 6) = false := decide_eq_false h6
  have C1 := Aside0.mk (decide_eq_false h1)
  have C2 := Aside0.mk (decide_eq_false h2)
  have C3 := Aside0.mk (decide_eq_false h3)
  have C4 := Aside0.mk (decide_eq_false h4)
  have n99 : (b == 99) = false := beq_eq_false_iff_ne.mpr e99
  have n104 : (b == 104) = false := beq_eq_false_iff_ne.mpr e104
  have n106 : (b == 106) = false := beq_eq_false_iff_ne.mpr e106
  have n128 : (b == 128) = false := beq_eq_false_iff_ne.mpr e128
  have n129 : (b == 129) = false := beq_eq_false_iff_ne.mpr e129
  have n131 : (b == 131) = false := beq_eq_false_iff_ne.mpr e131
  have n132 : (b == 132) = false := beq_eq_false_iff_ne.mpr e132
  have n133 : (b == 133) = false := beq_eq_false_iff_ne.mpr e133
  have n134 : (b == 134) = false := beq_eq_false_iff_ne.mpr e134
  have n135 : (b == 135) = false := beq_eq_false_iff_ne.mpr e135
  have n136 : (b == 136) = false := beq_eq_false_iff_ne.mpr e136
  have n137 : (b == 137) = false := beq_eq_false_iff_ne.mpr e137
  have n138 : (b == 138) = false := beq_eq_false_iff_ne.mpr e138
  have n139 : (b == 139) = false := beq_eq_false_iff_ne.mpr e139
  have n141 : (b == 141) = false := beq_eq_false_iff_ne.mpr e141
  have n143 : (b == 143) = false := beq_eq_false_iff_ne.mpr e143
  have n144 : (b == 144) = false := beq_eq_false_iff_ne.mpr e144
  have n152 : (b == 152) = false := beq_eq_false_iff_ne.mpr e152
  have n153 : (b == 153) = false := beq_eq_false_iff_ne.mpr e153
  have n164 : (b == 164) = false := beq_eq_false_iff_ne.mpr e164
  have n168 : (b == 168) = false := beq_eq_false_iff_ne.mpr e168
  have n169 : (b == 169) = false := beq_eq_false_iff_ne.mpr e169
  have n170 : (b == 170) = false := beq_eq_false_iff_ne.mpr e170
  have n192 : (b == 192) = false := beq_eq_false_iff_ne.mpr e192
  have n193 : (b == 193) = false := beq_eq_false_iff_ne.mpr e193
  have n195 : (b == 195) = false := beq_eq_false_iff_ne.mpr e195
  have n198 : (b == 198) = false := beq_eq_false_iff_ne.mpr e198
  have n199 : (b == 199) = false := beq_eq_false_iff_ne.mpr e199
  have n205 : (b == 205) = false := beq_eq_false_iff_ne.mpr e205
  have n208 : (b == 208) = false := beq_eq_false_iff_ne.mpr e208
  have n209 : (b == 209) = false := beq_eq_false_iff_ne.mpr e209
  have n210 : (b == 210) = false := beq_eq_false_iff_ne.mpr e210
  have n211 : (b == 211) = false := beq_eq_false_iff_ne.mpr e211
  have n232 : (b == 232) = false := beq_eq_false_iff_ne.mpr e232
  have n233 : (b == 233) = false := beq_eq_false_iff_ne.mpr e233
  have n235 : (b == 235) = false := beq_eq_false_iff_ne.mpr e235
  have n244 : (b == 244) = false := beq_eq_false_iff_ne.mpr e244
  have n246 : (b == 246) = false := beq_eq_false_iff_ne.mpr e246
  have n247 : (b == 247) = false := beq_eq_false_iff_ne.mpr e247
  have n254 : (b == 254) = false := beq_eq_false_iff_ne.mpr e254
  have n255 : (b == 255) = false := beq_eq_false_iff_ne.mpr e255
  clear e99 e104 e106 e128 e129 e131 e132 e133 e134 e135 e136 e137 e138 e139 e141 e143 e144 e152 e153 e164 e168 e169 e170 e192 e193 e195 e198 e199 e205 e208 e209 e210 e211 e232 e233 e235 e244 e246 e247 e254 e255
  clear h1 h2 h3 h4
  go_enter Tryd.func51, Tryd.ntmps51
  go_wp2_with (first | (go_at_call 36; refine (spec_l03First.in_ b _ _ _).mono ?_; rintro e w1 ⟨rfl, ⟨nd, rfl⟩⟩; first | rw [C1.out] | rw [C2.out] | rw [C3.out] | rw [C4.out]))
  refine bodyPost_ret (results_cell_row rfl _ _ w.heap.size 33 #[.int .i64 (0), .int .i64 (0), .int .i64 (0), .bool (false), .int .i64 (0)] (0, 0) _ rfl (by repeat (first | (with_reducible first | exact blk_new _ _ | refine blk_drewN ?_ _ | refine blk_alloc ?_ _ | (refine blk_far ?_ (Nat.ne_of_lt (Nat.lt_succ_self _)) _)) | apply shape_five)) Tryd.underlying33 rfl (by kernel_rfl)) rfl ?_
  exact ⟨rfl, by repeat (with_reducible first | refine below_set ?_ (Nat.le_refl _) | refine below_set ?_ (Nat.le_succ _) | exact Below.refl _ _ | apply below_alloc | apply pw_below_drewN | apply below_drew1)⟩
theorem spec_l03First.calls (b : Int) (r1 r2 r3 : Int) (r4 : Bool) (r5 : Int) (w : World) (h : spec_l03First.f b = some (r1, r2, r3, r4, r5)) :
    Calls Tryd.prog 51 #[.int .i64 b] w fun e w' => e = .returned (.agg #[.int .i64 r1, .int .i64 r2, .int .i64 r3, .bool r4, .int .i64 r5]) ∧ Below w.heap.size w w' := by
  unfold spec_l03First.f at h
  by_cases hr : 0 ≤ b ∧ b ≤ 255
  rotate_left
  · rw [if_neg hr] at h; exact absurd h (by simp)
  rw [if_pos hr, Option.some.injEq] at h
  obtain ⟨hr0, hr1⟩ := hr
  unfold spec_l03First.t at h
  by_cases c0 : b < 64 ∧ b % 8 < 6
  · rw [if_pos c0] at h
    obtain ⟨rfl, rfl, rfl, rfl, rfl⟩ : b / 8 + 1 = r1 ∧ b % 8 / 2 + 1 = r2 ∧ 0 = r3 ∧ (b % 2 == 0) = r4 ∧ 0 = r5 := by simpa using h
    obtain ⟨c1, c2⟩ := c0
    have hm : b % 8 = 0 ∨ b % 8 = 1 ∨ b % 8 = 2 ∨ b % 8 = 3 ∨ b % 8 = 4 ∨ b % 8 = 5 := by omega
    rcases hm with hm | hm | hm | hm | hm | hm
    · rw [show b % 8 / 2 + 1 = 1 by omega]; exact spec_l03First.low0 b hr0 c1 hm w
    · rw [show b % 8 / 2 + 1 = 1 by omega]; exact spec_l03First.low1 b hr0 c1 hm w
    · rw [show b % 8 / 2 + 1 = 2 by omega]; exact spec_l03First.low2 b hr0 c1 hm w
    · rw [show b % 8 / 2 + 1 = 2 by omega]; exact spec_l03First.low3 b hr0 c1 hm w
    · rw [show b % 8 / 2 + 1 = 3 by omega]; exact spec_l03First.low4 b hr0 c1 hm w
    · rw [show b % 8 / 2 + 1 = 3 by omega]; exact spec_l03First.low5 b hr0 c1 hm w
  rw [if_neg c0] at h
  by_cases k0 : 80 ≤ b ∧ b ≤ 87
  · rw [if_pos k0] at h
    obtain ⟨rfl, rfl, rfl, rfl, rfl⟩ : 29 = r1 ∧ 7 = r2 ∧ 0 = r3 ∧ false = r4 ∧ 0 = r5 := by simpa using h
    exact spec_l03First.rng0 b k0.1 k0.2 w
  rw [if_neg k0] at h
  by_cases k1 : 88 ≤ b ∧ b ≤ 95
  · rw [if_pos k1] at h
    obtain ⟨rfl, rfl, rfl, rfl, rfl⟩ : 30 = r1 ∧ 7 = r2 ∧ 0 = r3 ∧ false = r4 ∧ 0 = r5 := by simpa using h
    exact spec_l03First.rng1 b k1.1 k1.2 w
  rw [if_neg k1] at h
  by_cases k2 : 112 ≤ b ∧ b ≤ 127
  · rw [if_pos k2] at h
    obtain ⟨rfl, rfl, rfl, rfl, rfl⟩ : 33 = r1 ∧ 9 = r2 ∧ 0 = r3 ∧ false = r4 ∧ 0 = r5 := by simpa using h
    exact spec_l03First.rng2 b k2.1 k2.2 w
  rw [if_neg k2] at h
  by_cases k3 : 176 ≤ b ∧ b ≤ 191
  · rw [if_pos k3] at h
    obtain ⟨rfl, rfl, rfl, rfl, rfl⟩ : 9 = r1 ∧ 8 = r2 ∧ 0 = r3 ∧ decide (b < 184) = r4 ∧ 0 = r5 := by simpa using h
    exact spec_l03First.rng3 b k3.1 k3.2 w
  rw [if_neg k3] at h
  by_cases e99 : b = 99
  · subst e99
    obtain ⟨rfl, rfl, rfl, rfl, rfl⟩ : 27 = r1 ∧ 17 = r2 ∧ 0 = r3 ∧ false = r4 ∧ 4 = r5 := by simpa [spec_l03First.tab, List.lookup] using h
    exact spec_l03First.v99 w
  by_cases e104 : b = 104
  · subst e104
    obtain ⟨rfl, rfl, rfl, rfl, rfl⟩ : 29 = r1 ∧ 16 = r2 ∧ 0 = r3 ∧ false = r4 ∧ 0 = r5 := by simpa [spec_l03First.tab, List.lookup] using h
    exact spec_l03First.v104 w
  by_cases e106 : b = 106
  · subst e106
    obtain ⟨rfl, rfl, rfl, rfl, rfl⟩ : 29 = r1 ∧ 15 = r2 ∧ 0 = r3 ∧ false = r4 ∧ 0 = r5 := by simpa [spec_l03First.tab, List.lookup] using h
    exact spec_l03First.v106 w
  by_cases e128 : b = 128
  · subst e128
    obtain ⟨rfl, rfl, rfl, rfl, rfl⟩ : 0 = r1 ∧ 5 = r2 ∧ 1 = r3 ∧ true = r4 ∧ 0 = r5 := by simpa [spec_l03First.tab, List.lookup] using h
    exact spec_l03First.v128 w
  by_cases e129 : b = 129
  · subst e129
    obtain ⟨rfl, rfl, rfl, rfl, rfl⟩ : 0 = r1 ∧ 5 = r2 ∧ 1 = r3 ∧ false = r4 ∧ 0 = r5 := by simpa [spec_l03First.tab, List.lookup] using h
    exact spec_l03First.v129 w
  by_cases e131 : b = 131
  · subst e131
    obtain ⟨rfl, rfl, rfl, rfl, rfl⟩ : 0 = r1 ∧ 4 = r2 ∧ 1 = r3 ∧ false = r4 ∧ 0 = r5 := by simpa [spec_l03First.tab, List.lookup] using h
    exact spec_l03First.v131 w
  by_cases e132 : b = 132
  · subst e132
    obtain ⟨rfl, rfl, rfl, rfl, rfl⟩ : 10 = r1 ∧ 1 = r2 ∧ 0 = r3 ∧ true = r4 ∧ 0 = r5 := by simpa [spec_l03First.tab, List.lookup] using h
    exact spec_l03First.v132 w
  by_cases e133 : b = 133
  · subst e133
    obtain ⟨rfl, rfl, rfl, rfl, rfl⟩ : 10 = r1 ∧ 1 = r2 ∧ 0 = r3 ∧ false = r4 ∧ 0 = r5 := by simpa [spec_l03First.tab, List.lookup] using h
    exact spec_l03First.v133 w
  by_cases e134 : b = 134
  · subst e134
    obtain ⟨rfl, rfl, rfl, rfl, rfl⟩ : 28 = r1 ∧ 1 = r2 ∧ 0 = r3 ∧ true = r4 ∧ 0 = r5 := by simpa [spec_l03First.tab, List.lookup] using h
    exact spec_l03First.v134 w
  by_cases e135 : b = 135
  · subst e135
    obtain ⟨rfl, rfl, rfl, rfl, rfl⟩ : 28 = r1 ∧ 1 = r2 ∧ 0 = r3 ∧ false = r4 ∧ 0 = r5 := by simpa [spec_l03First.tab, List.lookup] using h
    exact spec_l03First.v135 w
  by_cases e136 : b = 136
  · subst e136
    obtain ⟨rfl, rfl, rfl, rfl, rfl⟩ : 9 = r1 ∧ 1 = r2 ∧ 0 = r3 ∧ true = r4 ∧ 0 = r5 := by simpa [spec_l03First.tab, List.lookup] using h
    exact spec_l03First.v136 w
  by_cases e137 : b = 137
  · subst e137
    obtain ⟨rfl, rfl, rfl, rfl, rfl⟩ : 9 = r1 ∧ 1 = r2 ∧ 0 = r3 ∧ false = r4 ∧ 0 = r5 := by simpa [spec_l03First.tab, List.lookup] using h
    exact spec_l03First.v137 w
  by_cases e138 : b = 138
  · subst e138
    obtain ⟨rfl, rfl, rfl, rfl, rfl⟩ : 9 = r1 ∧ 2 = r2 ∧ 0 = r3 ∧ true = r4 ∧ 0 = r5 := by simpa [spec_l03First.tab, List.lookup] using h
    exact spec_l03First.v138 w
  by_cases e139 : b = 139
  · subst e139
    obtain ⟨rfl, rfl, rfl, rfl, rfl⟩ : 9 = r1 ∧ 2 = r2 ∧ 0 = r3 ∧ false = r4 ∧ 0 = r5 := by simpa [spec_l03First.tab, List.lookup] using h
    exact spec_l03First.v139 w
  by_cases e141 : b = 141
  · subst e141
    obtain ⟨rfl, rfl, rfl, rfl, rfl⟩ : 25 = r1 ∧ 2 = r2 ∧ 0 = r3 ∧ false = r4 ∧ 0 = r5 := by simpa [spec_l03First.tab, List.lookup] using h
    exact spec_l03First.v141 w
  by_cases e143 : b = 143
  · subst e143
    obtain ⟨rfl, rfl, rfl, rfl, rfl⟩ : 0 = r1 ∧ 6 = r2 ∧ 6 = r3 ∧ false = r4 ∧ 0 = r5 := by simpa [spec_l03First.tab, List.lookup] using h
    exact spec_l03First.v143 w
  by_cases e144 : b = 144
  · subst e144
    obtain ⟨rfl, rfl, rfl, rfl, rfl⟩ : 37 = r1 ∧ 14 = r2 ∧ 0 = r3 ∧ false = r4 ∧ 0 = r5 := by simpa [spec_l03First.tab, List.lookup] using h
    exact spec_l03First.v144 w
  by_cases e152 : b = 152
  · subst e152
    obtain ⟨rfl, rfl, rfl, rfl, rfl⟩ : 39 = r1 ∧ 14 = r2 ∧ 0 = r3 ∧ false = r4 ∧ 0 = r5 := by simpa [spec_l03First.tab, List.lookup] using h
    exact spec_l03First.v152 w
  by_cases e153 : b = 153
  · subst e153
    obtain ⟨rfl, rfl, rfl, rfl, rfl⟩ : 40 = r1 ∧ 14 = r2 ∧ 0 = r3 ∧ false = r4 ∧ 0 = r5 := by simpa [spec_l03First.tab, List.lookup] using h
    exact spec_l03First.v153 w
  by_cases e164 : b = 164
  · subst e164
    obtain ⟨rfl, rfl, rfl, rfl, rfl⟩ : 42 = r1 ∧ 14 = r2 ∧ 0 = r3 ∧ true = r4 ∧ 0 = r5 := by simpa [spec_l03First.tab, List.lookup] using h
    exact spec_l03First.v164 w
  by_cases e168 : b = 168
  · subst e168
    obtain ⟨rfl, rfl, rfl, rfl, rfl⟩ : 10 = r1 ∧ 3 = r2 ∧ 0 = r3 ∧ true = r4 ∧ 0 = r5 := by simpa [spec_l03First.tab, List.lookup] using h
    exact spec_l03First.v168 w
  by_cases e169 : b = 169
  · subst e169
    obtain ⟨rfl, rfl, rfl, rfl, rfl⟩ : 10 = r1 ∧ 3 = r2 ∧ 0 = r3 ∧ false = r4 ∧ 0 = r5 := by simpa [spec_l03First.tab, List.lookup] using h
    exact spec_l03First.v169 w
  by_cases e170 : b = 170
  · subst e170
    obtain ⟨rfl, rfl, rfl, rfl, rfl⟩ : 41 = r1 ∧ 14 = r2 ∧ 0 = r3 ∧ true = r4 ∧ 0 = r5 := by simpa [spec_l03First.tab, List.lookup] using h
    exact spec_l03First.v170 w
  by_cases e192 : b = 192
  · subst e192
    obtain ⟨rfl, rfl, rfl, rfl, rfl⟩ : 0 = r1 ∧ 11 = r2 ∧ 2 = r3 ∧ true = r4 ∧ 0 = r5 := by simpa [spec_l03First.tab, List.lookup] using h
    exact spec_l03First.v192 w
  by_cases e193 : b = 193
  · subst e193
    obtain ⟨rfl, rfl, rfl, rfl, rfl⟩ : 0 = r1 ∧ 11 = r2 ∧ 2 = r3 ∧ false = r4 ∧ 0 = r5 := by simpa [spec_l03First.tab, List.lookup] using h
    exact spec_l03First.v193 w
  by_cases e195 : b = 195
  · subst e195
    obtain ⟨rfl, rfl, rfl, rfl, rfl⟩ : 34 = r1 ∧ 14 = r2 ∧ 0 = r3 ∧ false = r4 ∧ 0 = r5 := by simpa [spec_l03First.tab, List.lookup] using h
    exact spec_l03First.v195 w
  by_cases e198 : b = 198
  · subst e198
    obtain ⟨rfl, rfl, rfl, rfl, rfl⟩ : 0 = r1 ∧ 5 = r2 ∧ 7 = r3 ∧ true = r4 ∧ 0 = r5 := by simpa [spec_l03First.tab, List.lookup] using h
    exact spec_l03First.v198 w
  by_cases e199 : b = 199
  · subst e199
    obtain ⟨rfl, rfl, rfl, rfl, rfl⟩ : 0 = r1 ∧ 5 = r2 ∧ 7 = r3 ∧ false = r4 ∧ 0 = r5 := by simpa [spec_l03First.tab, List.lookup] using h
    exact spec_l03First.v199 w
  by_cases e205 : b = 205
  · subst e205
    obtain ⟨rfl, rfl, rfl, rfl, rfl⟩ : 44 = r1 ∧ 15 = r2 ∧ 0 = r3 ∧ false = r4 ∧ 0 = r5 := by simpa [spec_l03First.tab, List.lookup] using h
    exact spec_l03First.v205 w
  by_cases e208 : b = 208
  · subst e208
    obtain ⟨rfl, rfl, rfl, rfl, rfl⟩ : 0 = r1 ∧ 12 = r2 ∧ 2 = r3 ∧ true = r4 ∧ 0 = r5 := by simpa [spec_l03First.tab, List.lookup] using h
    exact spec_l03First.v208 w
  by_cases e209 : b = 209
  · subst e209
    obtain ⟨rfl, rfl, rfl, rfl, rfl⟩ : 0 = r1 ∧ 12 = r2 ∧ 2 = r3 ∧ false = r4 ∧ 0 = r5 := by simpa [spec_l03First.tab, List.lookup] using h
    exact spec_l03First.v209 w
  by_cases e210 : b = 210
  · subst e210
    obtain ⟨rfl, rfl, rfl, rfl, rfl⟩ : 0 = r1 ∧ 13 = r2 ∧ 2 = r3 ∧ true = r4 ∧ 0 = r5 := by simpa [spec_l03First.tab, List.lookup] using h
    exact spec_l03First.v210 w
  by_cases e211 : b = 211
  · subst e211
    obtain ⟨rfl, rfl, rfl, rfl, rfl⟩ : 0 = r1 ∧ 13 = r2 ∧ 2 = r3 ∧ false = r4 ∧ 0 = r5 := by simpa [spec_l03First.tab, List.lookup] using h
    exact spec_l03First.v211 w
  by_cases e232 : b = 232
  · subst e232
    obtain ⟨rfl, rfl, rfl, rfl, rfl⟩ : 31 = r1 ∧ 10 = r2 ∧ 0 = r3 ∧ false = r4 ∧ 0 = r5 := by simpa [spec_l03First.tab, List.lookup] using h
    exact spec_l03First.v232 w
  by_cases e233 : b = 233
  · subst e233
    obtain ⟨rfl, rfl, rfl, rfl, rfl⟩ : 32 = r1 ∧ 10 = r2 ∧ 0 = r3 ∧ false = r4 ∧ 0 = r5 := by simpa [spec_l03First.tab, List.lookup] using h
    exact spec_l03First.v233 w
  by_cases e235 : b = 235
  · subst e235
    obtain ⟨rfl, rfl, rfl, rfl, rfl⟩ : 32 = r1 ∧ 9 = r2 ∧ 0 = r3 ∧ false = r4 ∧ 0 = r5 := by simpa [spec_l03First.tab, List.lookup] using h
    exact spec_l03First.v235 w
  by_cases e244 : b = 244
  · subst e244
    obtain ⟨rfl, rfl, rfl, rfl, rfl⟩ : 38 = r1 ∧ 14 = r2 ∧ 0 = r3 ∧ false = r4 ∧ 0 = r5 := by simpa [spec_l03First.tab, List.lookup] using h
    exact spec_l03First.v244 w
  by_cases e246 : b = 246
  · subst e246
    obtain ⟨rfl, rfl, rfl, rfl, rfl⟩ : 0 = r1 ∧ 6 = r2 ∧ 3 = r3 ∧ true = r4 ∧ 0 = r5 := by simpa [spec_l03First.tab, List.lookup] using h
    exact spec_l03First.v246 w
  by_cases e247 : b = 247
  · subst e247
    obtain ⟨rfl, rfl, rfl, rfl, rfl⟩ : 0 = r1 ∧ 6 = r2 ∧ 3 = r3 ∧ false = r4 ∧ 0 = r5 := by simpa [spec_l03First.tab, List.lookup] using h
    exact spec_l03First.v247 w
  by_cases e254 : b = 254
  · subst e254
    obtain ⟨rfl, rfl, rfl, rfl, rfl⟩ : 0 = r1 ∧ 6 = r2 ∧ 4 = r3 ∧ true = r4 ∧ 0 = r5 := by simpa [spec_l03First.tab, List.lookup] using h
    exact spec_l03First.v254 w
  by_cases e255 : b = 255
  · subst e255
    obtain ⟨rfl, rfl, rfl, rfl, rfl⟩ : 0 = r1 ∧ 6 = r2 ∧ 5 = r3 ∧ false = r4 ∧ 0 = r5 := by simpa [spec_l03First.tab, List.lookup] using h
    exact spec_l03First.v255 w
  have hl : (spec_l03First.tab.lookup b).getD (0, 0, 0, false, 0) = (0, 0, 0, false, 0) := by simp [spec_l03First.tab, List.lookup, beq_eq_false_iff_ne.mpr e99, beq_eq_false_iff_ne.mpr e104, beq_eq_false_iff_ne.mpr e106, beq_eq_false_iff_ne.mpr e128, beq_eq_false_iff_ne.mpr e129, beq_eq_false_iff_ne.mpr e131, beq_eq_false_iff_ne.mpr e132, beq_eq_false_iff_ne.mpr e133, beq_eq_false_iff_ne.mpr e134, beq_eq_false_iff_ne.mpr e135, beq_eq_false_iff_ne.mpr e136, beq_eq_false_iff_ne.mpr e137, beq_eq_false_iff_ne.mpr e138, beq_eq_false_iff_ne.mpr e139, beq_eq_false_iff_ne.mpr e141, beq_eq_false_iff_ne.mpr e143, beq_eq_false_iff_ne.mpr e144, beq_eq_false_iff_ne.mpr e152, beq_eq_false_iff_ne.mpr e153, beq_eq_false_iff_ne.mpr e164, beq_eq_false_iff_ne.mpr e168, beq_eq_false_iff_ne.mpr e169, beq_eq_false_iff_ne.mpr e170, beq_eq_false_iff_ne.mpr e192, beq_eq_false_iff_ne.mpr e193, beq_eq_false_iff_ne.mpr e195, beq_eq_false_iff_ne.mpr e198, beq_eq_false_iff_ne.mpr e199, beq_eq_false_iff_ne.mpr e205, beq_eq_false_iff_ne.mpr e208, beq_eq_false_iff_ne.mpr e209, beq_eq_false_iff_ne.mpr e210, beq_eq_false_iff_ne.mpr e211, beq_eq_false_iff_ne.mpr e232, beq_eq_false_iff_ne.mpr e233, beq_eq_false_iff_ne.mpr e235, beq_eq_false_iff_ne.mpr e244, beq_eq_false_iff_ne.mpr e246, beq_eq_false_iff_ne.mpr e247, beq_eq_false_iff_ne.mpr e254, beq_eq_false_iff_ne.mpr e255]
  rw [hl] at h
  obtain ⟨rfl, rfl, rfl, rfl, rfl⟩ : 0 = r1 ∧ 0 = r2 ∧ 0 = r3 ∧ false = r4 ∧ 0 = r5 := by simpa using h
  by_cases c5 : b < 64
  · exact spec_l03First.else2 b hr0 c5 (fun x => c0 ⟨c5, x⟩) k0 k1 k2 k3 e99 e104 e106 e128 e129 e131 e132 e133 e134 e135 e136 e137 e138 e139 e141 e143 e144 e152 e153 e164 e168 e169 e170 e192 e193 e195 e198 e199 e205 e208 e209 e210 e211 e232 e233 e235 e244 e246 e247 e254 e255 w
  · exact spec_l03First.else1 b (by omega) k0 k1 k2 k3 e99 e104 e106 e128 e129 e131 e132 e133 e134 e135 e136 e137 e138 e139 e141 e143 e144 e152 e153 e164 e168 e169 e170 e192 e193 e195 e198 e199 e205 e208 e209 e210 e211 e232 e233 e235 e244 e246 e247 e254 e255 w


end Go.Proofs.YtkaffpbclanoeaaDoor.PFnNames
