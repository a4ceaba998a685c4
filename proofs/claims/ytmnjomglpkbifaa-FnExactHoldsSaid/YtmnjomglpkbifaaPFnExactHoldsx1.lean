-- Written for this claim by the session's own program, out of the translation. Not trusted: Lean checks it.
import Derived.Test.YtmnjomglpkbifaaPFnExactHoldsx0
namespace Go.Proofs.Ytmnjomglpkbifaa.PFnExactHolds
open Go.RowKit Go.Proofs.YtmnjomglpkbifaaW.PrintWords Go.Proofs.YtmnjomglpkbifaaW.PrintLast Go.Proofs.YtmnjomglpkbifaaW.PrintMore
attribute [local go_sem] max2_int min2_int max_two min_two max_three min_three max_four min_four   -- for this text's walks alone
set_option linter.unusedVariables false
set_option linter.unusedSimpArgs false

/-! ### spec_l01In: function 46 -/
def spec_l01In.f (a0 : Int) (a1 : Int) (a2 : Int) : Option (Bool) := if a0 ≥ a1 then (some (decide (a0 ≤ a2))) else (some false)
set_option maxHeartbeats 8000000 in
set_option maxRecDepth 100000 in
theorem spec_l01In.calls (a0 : Int) (a1 : Int) (a2 : Int) (r : Bool) (w : World) (h : spec_l01In.f a0 a1 a2 = some r) :
    Calls Try.prog 46 #[.int .i64 a0, .int .i64 a1, .int .i64 a2] w fun e w' => e = .returned (.bool r) ∧ Drawn0 w w' := by
  have H : (if a0 ≥ a1 then (some (decide (a0 ≤ a2))) else (some false)) = some r := h
  clear h
  by_cases c4 : a0 ≥ a1
  · rw [if_pos c4] at H
    have c4b0 : decide (a1 ≤ a0) = true := decide_eq_true c4
    clear c4
    obtain rfl := Option.some.inj H
    go_enter Try.func46, Try.ntmps46
    go_wp2
    go_ret
    exact ⟨by first | rfl | (simp; done) | (simp [*]; done), by repeat (first | exact Drawn0.refl _ | apply Drawn0.step)⟩
  · rw [if_neg c4] at H
    have c4b0 : decide (a1 ≤ a0) = false := decide_eq_false c4
    clear c4
    obtain rfl := Option.some.inj H
    go_enter Try.func46, Try.ntmps46
    go_wp2
    go_ret
    exact ⟨by first | rfl | (simp; done) | (simp [*]; done), by repeat (first | exact Drawn0.refl _ | apply Drawn0.step)⟩

/-! ### spec_l06Flags: function 47 -/
def spec_l06Flags.f (a0 : Int) : Option (Bool) := if a0 ≥ 0 then (some ((Go.bits .and .i64 a0 2245) == a0)) else (some false)
set_option maxHeartbeats 8000000 in
set_option maxRecDepth 100000 in
theorem spec_l06Flags.calls (a0 : Int) (r : Bool) (w : World) (h : spec_l06Flags.f a0 = some r) :
    Calls Try.prog 47 #[.int .i64 a0] w fun e w' => e = .returned (.bool r) ∧ Drawn0 w w' := by
  have H : (if a0 ≥ 0 then (some ((Go.bits .and .i64 a0 2245) == a0)) else (some false)) = some r := h
  clear h
  by_cases c2 : a0 ≥ 0
  · rw [if_pos c2] at H
    have c2b0 : decide (0 ≤ a0) = true := decide_eq_true c2
    clear c2
    obtain rfl := Option.some.inj H
    go_enter Try.func47, Try.ntmps47
    go_wp2
    go_ret
    exact ⟨by first | rfl | (simp; done) | (simp [*]; done), by repeat (first | exact Drawn0.refl _ | apply Drawn0.step)⟩
  · rw [if_neg c2] at H
    have c2b0 : decide (0 ≤ a0) = false := decide_eq_false c2
    clear c2
    obtain rfl := Option.some.inj H
    go_enter Try.func47, Try.ntmps47
    go_wp2
    go_ret
    exact ⟨by first | rfl | (simp; done) | (simp [*]; done), by repeat (first | exact Drawn0.refl _ | apply Drawn0.step)⟩

/-! ### spec_l06Holds: function 48 -/
def spec_l06Holds.f (a0 : Int) (a1 : Int) : Option (Bool) := if (Go.bits .and .i64 a1 1) = 0 then (if (Go.bits .and .i64 a1 64) = 0 then ((some (([((Go.bits .and .i64 a1 2048) != 0), ((Go.bits .and .i64 a1 1) != 0), ((Go.bits .and .i64 a1 64) != 0), ((Go.bits .and .i64 a1 64) != 0), ((Go.bits .and .i64 a1 128) != 0), ((Go.bits .and .i64 a1 4) != 0), (((Go.bits .and .i64 a1 128) != 0) != ((Go.bits .and .i64 a1 2048) != 0)), (((Go.bits .and .i64 a1 128) != 0) != ((Go.bits .and .i64 a1 2048) != 0))] : List Bool) : List Bool)).bind fun y101 => (if 0 ≤ (wrap64 (Int.tdiv a0 2)) then (if (wrap64 (Int.tdiv a0 2)) < (y101.length : Int) then (some ((rdOf false y101 (wrap64 (Int.tdiv a0 2))) == ((Int.tmod a0 2) == 0))) else (none)) else (none))) else ((some (([((Go.bits .and .i64 a1 2048) != 0), ((Go.bits .and .i64 a1 1) != 0), ((Go.bits .and .i64 a1 64) != 0), ((Go.bits .and .i64 a1 64) != 0), ((Go.bits .and .i64 a1 128) != 0), ((Go.bits .and .i64 a1 4) != 0), (((Go.bits .and .i64 a1 128) != 0) != ((Go.bits .and .i64 a1 2048) != 0)), true] : List Bool) : List Bool)).bind fun y105 => (if 0 ≤ (wrap64 (Int.tdiv a0 2)) then (if (wrap64 (Int.tdiv a0 2)) < (y105.length : Int) then (some ((rdOf false y105 (wrap64 (Int.tdiv a0 2))) == ((Int.tmod a0 2) == 0))) else (none)) else (none)))) else (if (Go.bits .and .i64 a1 64) = 0 then ((some (([((Go.bits .and .i64 a1 2048) != 0), ((Go.bits .and .i64 a1 1) != 0), ((Go.bits .and .i64 a1 64) != 0), true, ((Go.bits .and .i64 a1 128) != 0), ((Go.bits .and .i64 a1 4) != 0), (((Go.bits .and .i64 a1 128) != 0) != ((Go.bits .and .i64 a1 2048) != 0)), (((Go.bits .and .i64 a1 128) != 0) != ((Go.bits .and .i64 a1 2048) != 0))] : List Bool) : List Bool)).bind fun y109 => (if 0 ≤ (wrap64 (Int.tdiv a0 2)) then (if (wrap64 (Int.tdiv a0 2)) < (y109.length : Int) then (some ((rdOf false y109 (wrap64 (Int.tdiv a0 2))) == ((Int.tmod a0 2) == 0))) else (none)) else (none))) else ((some (([((Go.bits .and .i64 a1 2048) != 0), ((Go.bits .and .i64 a1 1) != 0), ((Go.bits .and .i64 a1 64) != 0), true, ((Go.bits .and .i64 a1 128) != 0), ((Go.bits .and .i64 a1 4) != 0), (((Go.bits .and .i64 a1 128) != 0) != ((Go.bits .and .i64 a1 2048) != 0)), true] : List Bool) : List Bool)).bind fun y113 => (if 0 ≤ (wrap64 (Int.tdiv a0 2)) then (if (wrap64 (Int.tdiv a0 2)) < (y113.length : Int) then (some ((rdOf false y113 (wrap64 (Int.tdiv a0 2))) == ((Int.tmod a0 2) == 0))) else (none)) else (none))))
set_option maxHeartbeats 8000000 in
set_option maxRecDepth 100000 in
theorem spec_l06Holds.calls (a0 : Int) (a1 : Int) (r : Bool) (w : World) (h : spec_l06Holds.f a0 a1 = some r) :
    Calls Try.prog 48 #[.int .i64 a0, .int .i64 a1] w fun e w' => e = .returned (.bool r) ∧ Below w.heap.size w w' := by
  have HB := Aside0.mk (Below.refl w.heap.size w)
  have H : (if (Go.bits .and .i64 a1 1) = 0 then (if (Go.bits .and .i64 a1 64) = 0 then ((some (([((Go.bits .and .i64 a1 2048) != 0), ((Go.bits .and .i64 a1 1) != 0), ((Go.bits .and .i64 a1 64) != 0), ((Go.bits .and .i64 a1 64) != 0), ((Go.bits .and .i64 a1 128) != 0), ((Go.bits .and .i64 a1 4) != 0), (((Go.bits .and .i64 a1 128) != 0) != ((Go.bits .and .i64 a1 2048) != 0)), (((Go.bits .and .i64 a1 128) != 0) != ((Go.bits .and .i64 a1 2048) != 0))] : List Bool) : List Bool)).bind fun y101 => (if 0 ≤ (wrap64 (Int.tdiv a0 2)) then (if (wrap64 (Int.tdiv a0 2)) < (y101.length : Int) then (some ((rdOf false y101 (wrap64 (Int.tdiv a0 2))) == ((Int.tmod a0 2) == 0))) else (none)) else (none))) else ((some (([((Go.bits .and .i64 a1 2048) != 0), ((Go.bits .and .i64 a1 1) != 0), ((Go.bits .and .i64 a1 64) != 0), ((Go.bits .and .i64 a1 64) != 0), ((Go.bits .and .i64 a1 128) != 0), ((Go.bits .and .i64 a1 4) != 0), (((Go.bits .and .i64 a1 128) != 0) != ((Go.bits .and .i64 a1 2048) != 0)), true] : List Bool) : List Bool)).bind fun y105 => (if 0 ≤ (wrap64 (Int.tdiv a0 2)) then (if (wrap64 (Int.tdiv a0 2)) < (y105.length : Int) then (some ((rdOf false y105 (wrap64 (Int.tdiv a0 2))) == ((Int.tmod a0 2) == 0))) else (none)) else (none)))) else (if (Go.bits .and .i64 a1 64) = 0 then ((some (([((Go.bits .and .i64 a1 2048) != 0), ((Go.bits .and .i64 a1 1) != 0), ((Go.bits .and .i64 a1 64) != 0), true, ((Go.bits .and .i64 a1 128) != 0), ((Go.bits .and .i64 a1 4) != 0), (((Go.bits .and .i64 a1 128) != 0) != ((Go.bits .and .i64 a1 2048) != 0)), (((Go.bits .and .i64 a1 128) != 0) != ((Go.bits .and .i64 a1 2048) != 0))] : List Bool) : List Bool)).bind fun y109 => (if 0 ≤ (wrap64 (Int.tdiv a0 2)) then (if (wrap64 (Int.tdiv a0 2)) < (y109.length : Int) then (some ((rdOf false y109 (wrap64 (Int.tdiv a0 2))) == ((Int.tmod a0 2) == 0))) else (none)) else (none))) else ((some (([((Go.bits .and .i64 a1 2048) != 0), ((Go.bits .and .i64 a1 1) != 0), ((Go.bits .and .i64 a1 64) != 0), true, ((Go.bits .and .i64 a1 128) != 0), ((Go.bits .and .i64 a1 4) != 0), (((Go.bits .and .i64 a1 128) != 0) != ((Go.bits .and .i64 a1 2048) != 0)), true] : List Bool) : List Bool)).bind fun y113 => (if 0 ≤ (wrap64 (Int.tdiv a0 2)) then (if (wrap64 (Int.tdiv a0 2)) < (y113.length : Int) then (some ((rdOf false y113 (wrap64 (Int.tdiv a0 2))) == ((Int.tmod a0 2) == 0))) else (none)) else (none))))) = some r := h
  clear h
  by_cases c3 : (Go.bits .and .i64 a1 1) = 0
  · rw [if_pos c3] at H
    have c3b0 : ((Go.bits .and .i64 a1 1) == 0) = true := beq_iff_eq.mpr c3
    have c3b1 : ((Go.bits .and .i64 a1 1) != 0) = false := bne_eq_false_iff_eq.mpr c3
    clear c3
    by_cases c4 : (Go.bits .and .i64 a1 64) = 0
    · rw [if_pos c4] at H
      have c4b0 : ((Go.bits .and .i64 a1 64) == 0) = true := beq_iff_eq.mpr c4
      have c4b1 : ((Go.bits .and .i64 a1 64) != 0) = false := bne_eq_false_iff_eq.mpr c4
      clear c4
      obtain ⟨y101, hy101⟩ : ∃ y_ : List Bool, y_ = (([((Go.bits .and .i64 a1 2048) != 0), ((Go.bits .and .i64 a1 1) != 0), ((Go.bits .and .i64 a1 64) != 0), ((Go.bits .and .i64 a1 64) != 0), ((Go.bits .and .i64 a1 128) != 0), ((Go.bits .and .i64 a1 4) != 0), (((Go.bits .and .i64 a1 128) != 0) != ((Go.bits .and .i64 a1 2048) != 0)), (((Go.bits .and .i64 a1 128) != 0) != ((Go.bits .and .i64 a1 2048) != 0))] : List Bool)) := ⟨_, rfl⟩
      replace H : (if 0 ≤ (wrap64 (Int.tdiv a0 2)) then (if (wrap64 (Int.tdiv a0 2)) < (y101.length : Int) then (some ((rdOf false y101 (wrap64 (Int.tdiv a0 2))) == ((Int.tmod a0 2) == 0))) else (none)) else (none)) = some r := by first | (rw [hy101]; with_reducible exact H) | (have H2_ := (Option.bind_some _ _).symm.trans H; rw [hy101]; with_reducible exact H2_) | (have H2_ := (Option.bind_some _ _).symm.trans H; with_reducible exact H2_) | with_reducible exact H | (rw [hy101]; exact H) | exact H
      have Ny101 := Aside0.mk hy101
      clear hy101
      obtain ⟨ji5, hji5⟩ : ∃ j_ : Int, (wrap64 (Int.tdiv a0 2)) = j_ := ⟨_, rfl⟩
      replace H : (if 0 ≤ (ji5) then (if (ji5) < (y101.length : Int) then (some ((rdOf false y101 (ji5)) == ((Int.tmod a0 2) == 0))) else (none)) else (none)) = some r := by first | (rw [hji5] at H; exact H) | (simp only [hji5] at H ⊢; exact H)
      have hji5w : (IntKind.i64.wrap (Int.tdiv a0 2)) = ji5 := (i64_w _).trans hji5
      by_cases c6 : 0 ≤ (ji5)
      · rw [if_pos c6] at H
        have c6b0 : decide (0 ≤ (ji5)) = true := decide_eq_true c6
        clear c6
        by_cases c7 : (ji5) < (y101.length : Int)
        · rw [if_pos c7] at H
          have c7b0 : decide ((ji5) < (y101.length : Int)) = true := decide_eq_true c7
          clear c7
          obtain rfl := Option.some.inj H
          go_enter Try.func48, Try.ntmps48
          go_wp2_with (first | ((with_reducible refine gate_dst (N := 44) rfl ?_); refine Kd.R_lit Kd.bool _ 4 ?hg (N := 44) ?hd (xs := ([((Go.bits .and .i64 a1 2048) != 0), ((Go.bits .and .i64 a1 1) != 0), ((Go.bits .and .i64 a1 64) != 0), ((Go.bits .and .i64 a1 64) != 0), ((Go.bits .and .i64 a1 128) != 0), ((Go.bits .and .i64 a1 4) != 0), (((Go.bits .and .i64 a1 128) != 0) != ((Go.bits .and .i64 a1 2048) != 0)), (((Go.bits .and .i64 a1 128) != 0) != ((Go.bits .and .i64 a1 2048) != 0))] : List Bool)) (inner := [.bool ((Go.bits .and .i64 a1 2048) != 0), .bool ((Go.bits .and .i64 a1 1) != 0), .bool ((Go.bits .and .i64 a1 64) != 0), .bool ((Go.bits .and .i64 a1 64) != 0), .bool ((Go.bits .and .i64 a1 128) != 0), .bool ((Go.bits .and .i64 a1 4) != 0), .bool (((Go.bits .and .i64 a1 128) != 0) != ((Go.bits .and .i64 a1 2048) != 0)), .bool (((Go.bits .and .i64 a1 128) != 0) != ((Go.bits .and .i64 a1 2048) != 0))]) (ok := fun _ => True) (okp := fun _ => True) ?hr ?hp (fun _ hk => hk) trivial (Below.refl _ _) (Nat.le_refl _) (by simp) ?_; (case hd => rfl); (case hg => rfl); (case hr => first | (go_simp; done) | (go_simp; rfl)); (case hp => exact (Reps.one (show Kd.M Kd.bool _ _ _ ((Go.bits .and .i64 a1 2048) != 0) [.bool ((Go.bits .and .i64 a1 2048) != 0)] from rfl) (Reps.one (show Kd.M Kd.bool _ _ _ ((Go.bits .and .i64 a1 1) != 0) [.bool ((Go.bits .and .i64 a1 1) != 0)] from rfl) (Reps.one (show Kd.M Kd.bool _ _ _ ((Go.bits .and .i64 a1 64) != 0) [.bool ((Go.bits .and .i64 a1 64) != 0)] from rfl) (Reps.one (show Kd.M Kd.bool _ _ _ ((Go.bits .and .i64 a1 64) != 0) [.bool ((Go.bits .and .i64 a1 64) != 0)] from rfl) (Reps.one (show Kd.M Kd.bool _ _ _ ((Go.bits .and .i64 a1 128) != 0) [.bool ((Go.bits .and .i64 a1 128) != 0)] from rfl) (Reps.one (show Kd.M Kd.bool _ _ _ ((Go.bits .and .i64 a1 4) != 0) [.bool ((Go.bits .and .i64 a1 4) != 0)] from rfl) (Reps.one (show Kd.M Kd.bool _ _ _ (((Go.bits .and .i64 a1 128) != 0) != ((Go.bits .and .i64 a1 2048) != 0)) [.bool (((Go.bits .and .i64 a1 128) != 0) != ((Go.bits .and .i64 a1 2048) != 0))] from rfl) (Reps.one (show Kd.M Kd.bool _ _ _ (((Go.bits .and .i64 a1 128) != 0) != ((Go.bits .and .i64 a1 2048) != 0)) [.bool (((Go.bits .and .i64 a1 128) != 0) != ((Go.bits .and .i64 a1 2048) != 0))] from rfl) (Reps.none _ _)))))))))); intro v102 w8 ho9 hb hg_ hnew_; clear hg_ hnew_; (first | rw [← Ny101.out] at ho9 | (simp only [Int.reduceToNat] at ho9; rw [← Ny101.out] at ho9)); have n0_ := Aside0.mk (Kd.R_lower ho9 (below_size (by repeat (first | (with_reducible first | exact HB.out | apply below_alloc | apply pw_below_drewN | apply below_drew1) | exact HB.out)))); have n1_ := Aside0.mk (below_step (by repeat (first | (with_reducible first | exact HB.out | apply below_alloc | apply pw_below_drewN | apply below_drew1) | exact HB.out)) hb); clear HB; have HO103 := n0_; have HB := n1_; clear n0_ n1_; clear hb ho9; obtain ⟨Ao10, co10, eo10⟩ := Kd.R_slice HO103.out; subst eo10; have p104 : 0 ≤ ((ji5) : Int) := of_decide_eq_true (by first | (with_reducible assumption) | assumption); have q104 : (ji5) < (y101.length : Int) := of_decide_eq_true (by first | (with_reducible assumption) | assumption); obtain ⟨ad104, e104, hx104_0⟩ := Kd.at_bool (Kd.R_reads' HO103.out).2.2 (ji5) p104 q104; cases e104; replace p104 := eq_true p104; replace q104 := eq_true q104))
          go_ret
          exact ⟨by first | rfl | (simp [errW_none, errW_some] <;> rfl) | (simp only [← hji5]; first | rfl | (simp [errW_none, errW_some] <;> rfl)) | (simp [*, errW_none, errW_some] <;> rfl), by repeat (first | (with_reducible first | exact HB.out | apply below_alloc | apply pw_below_drewN | apply below_drew1) | exact HB.out)⟩
        · rw [if_neg c7] at H
          exact absurd H (by simp)
      · rw [if_neg c6] at H
        exact absurd H (by simp)
    · rw [if_neg c4] at H
      have c4b0 : ((Go.bits .and .i64 a1 64) == 0) = false := beq_eq_false_iff_ne.mpr c4
      have c4b1 : ((Go.bits .and .i64 a1 64) != 0) = true := bne_iff_ne.mpr c4
      obtain ⟨y105, hy105⟩ : ∃ y_ : List Bool, y_ = (([((Go.bits .and .i64 a1 2048) != 0), ((Go.bits .and .i64 a1 1) != 0), ((Go.bits .and .i64 a1 64) != 0), ((Go.bits .and .i64 a1 64) != 0), ((Go.bits .and .i64 a1 128) != 0), ((Go.bits .and .i64 a1 4) != 0), (((Go.bits .and .i64 a1 128) != 0) != ((Go.bits .and .i64 a1 2048) != 0)), true] : List Bool)) := ⟨_, rfl⟩
      replace H : (if 0 ≤ (wrap64 (Int.tdiv a0 2)) then (if (wrap64 (Int.tdiv a0 2)) < (y105.length : Int) then (some ((rdOf false y105 (wrap64 (Int.tdiv a0 2))) == ((Int.tmod a0 2) == 0))) else (none)) else (none)) = some r := by first | (rw [hy105]; with_reducible exact H) | (have H2_ := (Option.bind_some _ _).symm.trans H; rw [hy105]; with_reducible exact H2_) | (have H2_ := (Option.bind_some _ _).symm.trans H; with_reducible exact H2_) | with_reducible exact H | (rw [hy105]; exact H) | exact H
      have Ny105 := Aside0.mk hy105
      clear hy105
      obtain ⟨ji11, hji11⟩ : ∃ j_ : Int, (wrap64 (Int.tdiv a0 2)) = j_ := ⟨_, rfl⟩
      replace H : (if 0 ≤ (ji11) then (if (ji11) < (y105.length : Int) then (some ((rdOf false y105 (ji11)) == ((Int.tmod a0 2) == 0))) else (none)) else (none)) = some r := by first | (rw [hji11] at H; exact H) | (simp only [hji11] at H ⊢; exact H)
      have hji11w : (IntKind.i64.wrap (Int.tdiv a0 2)) = ji11 := (i64_w _).trans hji11
      by_cases c12 : 0 ≤ (ji11)
      · rw [if_pos c12] at H
        have c12b0 : decide (0 ≤ (ji11)) = true := decide_eq_true c12
        clear c12
        by_cases c13 : (ji11) < (y105.length : Int)
        · rw [if_pos c13] at H
          have c13b0 : decide ((ji11) < (y105.length : Int)) = true := decide_eq_true c13
          clear c13
          obtain rfl := Option.some.inj H
          go_enter Try.func48, Try.ntmps48
          go_wp2_with (first | ((with_reducible refine gate_dst (N := 44) rfl ?_); refine Kd.R_lit Kd.bool _ 4 ?hg (N := 44) ?hd (xs := ([((Go.bits .and .i64 a1 2048) != 0), ((Go.bits .and .i64 a1 1) != 0), ((Go.bits .and .i64 a1 64) != 0), ((Go.bits .and .i64 a1 64) != 0), ((Go.bits .and .i64 a1 128) != 0), ((Go.bits .and .i64 a1 4) != 0), (((Go.bits .and .i64 a1 128) != 0) != ((Go.bits .and .i64 a1 2048) != 0)), true] : List Bool)) (inner := [.bool ((Go.bits .and .i64 a1 2048) != 0), .bool ((Go.bits .and .i64 a1 1) != 0), .bool ((Go.bits .and .i64 a1 64) != 0), .bool ((Go.bits .and .i64 a1 64) != 0), .bool ((Go.bits .and .i64 a1 128) != 0), .bool ((Go.bits .and .i64 a1 4) != 0), .bool (((Go.bits .and .i64 a1 128) != 0) != ((Go.bits .and .i64 a1 2048) != 0)), .bool true]) (ok := fun _ => True) (okp := fun _ => True) ?hr ?hp (fun _ hk => hk) trivial (Below.refl _ _) (Nat.le_refl _) (by simp) ?_; (case hd => rfl); (case hg => rfl); (case hr => first | (go_simp; done) | (go_simp; rfl)); (case hp => exact (Reps.one (show Kd.M Kd.bool _ _ _ ((Go.bits .and .i64 a1 2048) != 0) [.bool ((Go.bits .and .i64 a1 2048) != 0)] from rfl) (Reps.one (show Kd.M Kd.bool _ _ _ ((Go.bits .and .i64 a1 1) != 0) [.bool ((Go.bits .and .i64 a1 1) != 0)] from rfl) (Reps.one (show Kd.M Kd.bool _ _ _ ((Go.bits .and .i64 a1 64) != 0) [.bool ((Go.bits .and .i64 a1 64) != 0)] from rfl) (Reps.one (show Kd.M Kd.bool _ _ _ ((Go.bits .and .i64 a1 64) != 0) [.bool ((Go.bits .and .i64 a1 64) != 0)] from rfl) (Reps.one (show Kd.M Kd.bool _ _ _ ((Go.bits .and .i64 a1 128) != 0) [.bool ((Go.bits .and .i64 a1 128) != 0)] from rfl) (Reps.one (show Kd.M Kd.bool _ _ _ ((Go.bits .and .i64 a1 4) != 0) [.bool ((Go.bits .and .i64 a1 4) != 0)] from rfl) (Reps.one (show Kd.M Kd.bool _ _ _ (((Go.bits .and .i64 a1 128) != 0) != ((Go.bits .and .i64 a1 2048) != 0)) [.bool (((Go.bits .and .i64 a1 128) != 0) != ((Go.bits .and .i64 a1 2048) != 0))] from rfl) (Reps.one (show Kd.M Kd.bool _ _ _ true [.bool true] from rfl) (Reps.none _ _)))))))))); intro v106 w14 ho15 hb hg_ hnew_; clear hg_ hnew_; (first | rw [← Ny105.out] at ho15 | (simp only [Int.reduceToNat] at ho15; rw [← Ny105.out] at ho15)); have n0_ := Aside0.mk (Kd.R_lower ho15 (below_size (by repeat (first | (with_reducible first | exact HB.out | apply below_alloc | apply pw_below_drewN | apply below_drew1) | exact HB.out)))); have n1_ := Aside0.mk (below_step (by repeat (first | (with_reducible first | exact HB.out | apply below_alloc | apply pw_below_drewN | apply below_drew1) | exact HB.out)) hb); clear HB; have HO107 := n0_; have HB := n1_; clear n0_ n1_; clear hb ho15; obtain ⟨Ao16, co16, eo16⟩ := Kd.R_slice HO107.out; subst eo16; have p108 : 0 ≤ ((ji11) : Int) := of_decide_eq_true (by first | (with_reducible assumption) | assumption); have q108 : (ji11) < (y105.length : Int) := of_decide_eq_true (by first | (with_reducible assumption) | assumption); obtain ⟨ad108, e108, hx108_0⟩ := Kd.at_bool (Kd.R_reads' HO107.out).2.2 (ji11) p108 q108; cases e108; replace p108 := eq_true p108; replace q108 := eq_true q108))
          go_ret
          exact ⟨by first | rfl | (simp [errW_none, errW_some] <;> rfl) | (simp only [← hji11]; first | rfl | (simp [errW_none, errW_some] <;> rfl)) | (simp [*, errW_none, errW_some] <;> rfl), by repeat (first | (with_reducible first | exact HB.out | apply below_alloc | apply pw_below_drewN | apply below_drew1) | exact HB.out)⟩
        · rw [if_neg c13] at H
          exact absurd H (by simp)
      · rw [if_neg c12] at H
        exact absurd H (by simp)
  · rw [if_neg c3] at H
    have c3b0 : ((Go.bits .and .i64 a1 1) == 0) = false := beq_eq_false_iff_ne.mpr c3
    have c3b1 : ((Go.bits .and .i64 a1 1) != 0) = true := bne_iff_ne.mpr c3
    by_cases c17 : (Go.bits .and .i64 a1 64) = 0
    · rw [if_pos c17] at H
      have c17b0 : ((Go.bits .and .i64 a1 64) == 0) = true := beq_iff_eq.mpr c17
      have c17b1 : ((Go.bits .and .i64 a1 64) != 0) = false := bne_eq_false_iff_eq.mpr c17
      clear c17
      obtain ⟨y109, hy109⟩ : ∃ y_ : List Bool, y_ = (([((Go.bits .and .i64 a1 2048) != 0), ((Go.bits .and .i64 a1 1) != 0), ((Go.bits .and .i64 a1 64) != 0), true, ((Go.bits .and .i64 a1 128) != 0), ((Go.bits .and .i64 a1 4) != 0), (((Go.bits .and .i64 a1 128) != 0) != ((Go.bits .and .i64 a1 2048) != 0)), (((Go.bits .and .i64 a1 128) != 0) != ((Go.bits .and .i64 a1 2048) != 0))] : List Bool)) := ⟨_, rfl⟩
      replace H : (if 0 ≤ (wrap64 (Int.tdiv a0 2)) then (if (wrap64 (Int.tdiv a0 2)) < (y109.length : Int) then (some ((rdOf false y109 (wrap64 (Int.tdiv a0 2))) == ((Int.tmod a0 2) == 0))) else (none)) else (none)) = some r := by first | (rw [hy109]; with_reducible exact H) | (have H2_ := (Option.bind_some _ _).symm.trans H; rw [hy109]; with_reducible exact H2_) | (have H2_ := (Option.bind_some _ _).symm.trans H; with_reducible exact H2_) | with_reducible exact H | (rw [hy109]; exact H) | exact H
      have Ny109 := Aside0.mk hy109
      clear hy109
      obtain ⟨ji18, hji18⟩ : ∃ j_ : Int, (wrap64 (Int.tdiv a0 2)) = j_ := ⟨_, rfl⟩
      replace H : (if 0 ≤ (ji18) then (if (ji18) < (y109.length : Int) then (some ((rdOf false y109 (ji18)) == ((Int.tmod a0 2) == 0))) else (none)) else (none)) = some r := by first | (rw [hji18] at H; exact H) | (simp only [hji18] at H ⊢; exact H)
      have hji18w : (IntKind.i64.wrap (Int.tdiv a0 2)) = ji18 := (i64_w _).trans hji18
      by_cases c19 : 0 ≤ (ji18)
      · rw [if_pos c19] at H
        have c19b0 : decide (0 ≤ (ji18)) = true := decide_eq_true c19
        clear c19
        by_cases c20 : (ji18) < (y109.length : Int)
        · rw [if_pos c20] at H
          have c20b0 : decide ((ji18) < (y109.length : Int)) = true := decide_eq_true c20
          clear c20
          obtain rfl := Option.some.inj H
          go_enter Try.func48, Try.ntmps48
          go_wp2_with (first | ((with_reducible refine gate_dst (N := 44) rfl ?_); refine Kd.R_lit Kd.bool _ 4 ?hg (N := 44) ?hd (xs := ([((Go.bits .and .i64 a1 2048) != 0), ((Go.bits .and .i64 a1 1) != 0), ((Go.bits .and .i64 a1 64) != 0), true, ((Go.bits .and .i64 a1 128) != 0), ((Go.bits .and .i64 a1 4) != 0), (((Go.bits .and .i64 a1 128) != 0) != ((Go.bits .and .i64 a1 2048) != 0)), (((Go.bits .and .i64 a1 128) != 0) != ((Go.bits .and .i64 a1 2048) != 0))] : List Bool)) (inner := [.bool ((Go.bits .and .i64 a1 2048) != 0), .bool ((Go.bits .and .i64 a1 1) != 0), .bool ((Go.bits .and .i64 a1 64) != 0), .bool true, .bool ((Go.bits .and .i64 a1 128) != 0), .bool ((Go.bits .and .i64 a1 4) != 0), .bool (((Go.bits .and .i64 a1 128) != 0) != ((Go.bits .and .i64 a1 2048) != 0)), .bool (((Go.bits .and .i64 a1 128) != 0) != ((Go.bits .and .i64 a1 2048) != 0))]) (ok := fun _ => True) (okp := fun _ => True) ?hr ?hp (fun _ hk => hk) trivial (Below.refl _ _) (Nat.le_refl _) (by simp) ?_; (case hd => rfl); (case hg => rfl); (case hr => first | (go_simp; done) | (go_simp; rfl)); (case hp => exact (Reps.one (show Kd.M Kd.bool _ _ _ ((Go.bits .and .i64 a1 2048) != 0) [.bool ((Go.bits .and .i64 a1 2048) != 0)] from rfl) (Reps.one (show Kd.M Kd.bool _ _ _ ((Go.bits .and .i64 a1 1) != 0) [.bool ((Go.bits .and .i64 a1 1) != 0)] from rfl) (Reps.one (show Kd.M Kd.bool _ _ _ ((Go.bits .and .i64 a1 64) != 0) [.bool ((Go.bits .and .i64 a1 64) != 0)] from rfl) (Reps.one (show Kd.M Kd.bool _ _ _ true [.bool true] from rfl) (Reps.one (show Kd.M Kd.bool _ _ _ ((Go.bits .and .i64 a1 128) != 0) [.bool ((Go.bits .and .i64 a1 128) != 0)] from rfl) (Reps.one (show Kd.M Kd.bool _ _ _ ((Go.bits .and .i64 a1 4) != 0) [.bool ((Go.bits .and .i64 a1 4) != 0)] from rfl) (Reps.one (show Kd.M Kd.bool _ _ _ (((Go.bits .and .i64 a1 128) != 0) != ((Go.bits .and .i64 a1 2048) != 0)) [.bool (((Go.bits .and .i64 a1 128) != 0) != ((Go.bits .and .i64 a1 2048) != 0))] from rfl) (Reps.one (show Kd.M Kd.bool _ _ _ (((Go.bits .and .i64 a1 128) != 0) != ((Go.bits .and .i64 a1 2048) != 0)) [.bool (((Go.bits .and .i64 a1 128) != 0) != ((Go.bits .and .i64 a1 2048) != 0))] from rfl) (Reps.none _ _)))))))))); intro v110 w21 ho22 hb hg_ hnew_; clear hg_ hnew_; (first | rw [← Ny109.out] at ho22 | (simp only [Int.reduceToNat] at ho22; rw [← Ny109.out] at ho22)); have n0_ := Aside0.mk (Kd.R_lower ho22 (below_size (by repeat (first | (with_reducible first | exact HB.out | apply below_alloc | apply pw_below_drewN | apply below_drew1) | exact HB.out)))); have n1_ := Aside0.mk (below_step (by repeat (first | (with_reducible first | exact HB.out | apply below_alloc | apply pw_below_drewN | apply below_drew1) | exact HB.out)) hb); clear HB; have HO111 := n0_; have HB := n1_; clear n0_ n1_; clear hb ho22; obtain ⟨Ao23, co23, eo23⟩ := Kd.R_slice HO111.out; subst eo23; have p112 : 0 ≤ ((ji18) : Int) := of_decide_eq_true (by first | (with_reducible assumption) | assumption); have q112 : (ji18) < (y109.length : Int) := of_decide_eq_true (by first | (with_reducible assumption) | assumption); obtain ⟨ad112, e112, hx112_0⟩ := Kd.at_bool (Kd.R_reads' HO111.out).2.2 (ji18) p112 q112; cases e112; replace p112 := eq_true p112; replace q112 := eq_true q112))
          go_ret
          exact ⟨by first | rfl | (simp [errW_none, errW_some] <;> rfl) | (simp only [← hji18]; first | rfl | (simp [errW_none, errW_some] <;> rfl)) | (simp [*, errW_none, errW_some] <;> rfl), by repeat (first | (with_reducible first | exact HB.out | apply below_alloc | apply pw_below_drewN | apply below_drew1) | exact HB.out)⟩
        · rw [if_neg c20] at H
          exact absurd H (by simp)
      · rw [if_neg c19] at H
        exact absurd H (by simp)
    · rw [if_neg c17] at H
      have c17b0 : ((Go.bits .and .i64 a1 64) == 0) = false := beq_eq_false_iff_ne.mpr c17
      have c17b1 : ((Go.bits .and .i64 a1 64) != 0) = true := bne_iff_ne.mpr c17
      obtain ⟨y113, hy113⟩ : ∃ y_ : List Bool, y_ = (([((Go.bits .and .i64 a1 2048) != 0), ((Go.bits .and .i64 a1 1) != 0), ((Go.bits .and .i64 a1 64) != 0), true, ((Go.bits .and .i64 a1 128) != 0), ((Go.bits .and .i64 a1 4) != 0), (((Go.bits .and .i64 a1 128) != 0) != ((Go.bits .and .i64 a1 2048) != 0)), true] : List Bool)) := ⟨_, rfl⟩
      replace H : (if 0 ≤ (wrap64 (Int.tdiv a0 2)) then (if (wrap64 (Int.tdiv a0 2)) < (y113.length : Int) then (some ((rdOf false y113 (wrap64 (Int.tdiv a0 2))) == ((Int.tmod a0 2) == 0))) else (none)) else (none)) = some r := by first | (rw [hy113]; with_reducible exact H) | (have H2_ := (Option.bind_some _ _).symm.trans H; rw [hy113]; with_reducible exact H2_) | (have H2_ := (Option.bind_some _ _).symm.trans H; with_reducible exact H2_) | with_reducible exact H | (rw [hy113]; exact H) | exact H
      have Ny113 := Aside0.mk hy113
      clear hy113
      obtain ⟨ji24, hji24⟩ : ∃ j_ : Int, (wrap64 (Int.tdiv a0 2)) = j_ := ⟨_, rfl⟩
      replace H : (if 0 ≤ (ji24) then (if (ji24) < (y113.length : Int) then (some ((rdOf false y113 (ji24)) == ((Int.tmod a0 2) == 0))) else (none)) else (none)) = some r := by first | (rw [hji24] at H; exact H) | (simp only [hji24] at H ⊢; exact H)
      have hji24w : (IntKind.i64.wrap (Int.tdiv a0 2)) = ji24 := (i64_w _).trans hji24
      by_cases c25 : 0 ≤ (ji24)
      · rw [if_pos c25] at H
        have c25b0 : decide (0 ≤ (ji24)) = true := decide_eq_true c25
        clear c25
        by_cases c26 : (ji24) < (y113.length : Int)
        · rw [if_pos c26] at H
          have c26b0 : decide ((ji24) < (y113.length : Int)) = true := decide_eq_true c26
          clear c26
          obtain rfl := Option.some.inj H
          go_enter Try.func48, Try.ntmps48
          go_wp2_with (first | ((with_reducible refine gate_dst (N := 44) rfl ?_); refine Kd.R_lit Kd.bool _ 4 ?hg (N := 44) ?hd (xs := ([((Go.bits .and .i64 a1 2048) != 0), ((Go.bits .and .i64 a1 1) != 0), ((Go.bits .and .i64 a1 64) != 0), true, ((Go.bits .and .i64 a1 128) != 0), ((Go.bits .and .i64 a1 4) != 0), (((Go.bits .and .i64 a1 128) != 0) != ((Go.bits .and .i64 a1 2048) != 0)), true] : List Bool)) (inner := [.bool ((Go.bits .and .i64 a1 2048) != 0), .bool ((Go.bits .and .i64 a1 1) != 0), .bool ((Go.bits .and .i64 a1 64) != 0), .bool true, .bool ((Go.bits .and .i64 a1 128) != 0), .bool ((Go.bits .and .i64 a1 4) != 0), .bool (((Go.bits .and .i64 a1 128) != 0) != ((Go.bits .and .i64 a1 2048) != 0)), .bool true]) (ok := fun _ => True) (okp := fun _ => True) ?hr ?hp (fun _ hk => hk) trivial (Below.refl _ _) (Nat.le_refl _) (by simp) ?_; (case hd => rfl); (case hg => rfl); (case hr => first | (go_simp; done) | (go_simp; rfl)); (case hp => exact (Reps.one (show Kd.M Kd.bool _ _ _ ((Go.bits .and .i64 a1 2048) != 0) [.bool ((Go.bits .and .i64 a1 2048) != 0)] from rfl) (Reps.one (show Kd.M Kd.bool _ _ _ ((Go.bits .and .i64 a1 1) != 0) [.bool ((Go.bits .and .i64 a1 1) != 0)] from rfl) (Reps.one (show Kd.M Kd.bool _ _ _ ((Go.bits .and .i64 a1 64) != 0) [.bool ((Go.bits .and .i64 a1 64) != 0)] from rfl) (Reps.one (show Kd.M Kd.bool _ _ _ true [.bool true] from rfl) (Reps.one (show Kd.M Kd.bool _ _ _ ((Go.bits .and .i64 a1 128) != 0) [.bool ((Go.bits .and .i64 a1 128) != 0)] from rfl) (Reps.one (show Kd.M Kd.bool _ _ _ ((Go.bits .and .i64 a1 4) != 0) [.bool ((Go.bits .and .i64 a1 4) != 0)] from rfl) (Reps.one (show Kd.M Kd.bool _ _ _ (((Go.bits .and .i64 a1 128) != 0) != ((Go.bits .and .i64 a1 2048) != 0)) [.bool (((Go.bits .and .i64 a1 128) != 0) != ((Go.bits .and .i64 a1 2048) != 0))] from rfl) (Reps.one (show Kd.M Kd.bool _ _ _ true [.bool true] from rfl) (Reps.none _ _)))))))))); intro v114 w27 ho28 hb hg_ hnew_; clear hg_ hnew_; (first | rw [← Ny113.out] at ho28 | (simp only [Int.reduceToNat] at ho28; rw [← Ny113.out] at ho28)); have n0_ := Aside0.mk (Kd.R_lower ho28 (below_size (by repeat (first | (with_reducible first | exact HB.out | apply below_alloc | apply pw_below_drewN | apply below_drew1) | exact HB.out)))); have n1_ := Aside0.mk (below_step (by repeat (first | (with_reducible first | exact HB.out | apply below_alloc | apply pw_below_drewN | apply below_drew1) | exact HB.out)) hb); clear HB; have HO115 := n0_; have HB := n1_; clear n0_ n1_; clear hb ho28; obtain ⟨Ao29, co29, eo29⟩ := Kd.R_slice HO115.out; subst eo29; have p116 : 0 ≤ ((ji24) : Int) := of_decide_eq_true (by first | (with_reducible assumption) | assumption); have q116 : (ji24) < (y113.length : Int) := of_decide_eq_true (by first | (with_reducible assumption) | assumption); obtain ⟨ad116, e116, hx116_0⟩ := Kd.at_bool (Kd.R_reads' HO115.out).2.2 (ji24) p116 q116; cases e116; replace p116 := eq_true p116; replace q116 := eq_true q116))
          go_ret
          exact ⟨by first | rfl | (simp [errW_none, errW_some] <;> rfl) | (simp only [← hji24]; first | rfl | (simp [errW_none, errW_some] <;> rfl)) | (simp [*, errW_none, errW_some] <;> rfl), by repeat (first | (with_reducible first | exact HB.out | apply below_alloc | apply pw_below_drewN | apply below_drew1) | exact HB.out)⟩
        · rw [if_neg c26] at H
          exact absurd H (by simp)
      · rw [if_neg c25] at H
        exact absurd H (by simp)

/-! ### spec_Holds: function 21 -/
def spec_Holds.f (a0 : Int) (a1 : Int) : Option (Bool × Int) := (spec_l01In.f a0 0 15).bind fun t117 => (if t117 = true then ((spec_l06Flags.f a1).bind fun t118 => (if t118 = true then ((spec_l06Holds.f a0 a1).bind fun t119 => (some (t119, 0))) else (some (false, 4)))) else (some (false, 4)))
set_option maxHeartbeats 8000000 in
set_option maxRecDepth 100000 in
theorem spec_Holds.calls (a0 : Int) (a1 : Int) (r1 : Bool) (r2 : Int) (w : World) (h : spec_Holds.f a0 a1 = some (r1, r2)) :
    Calls Try.prog 21 #[.int .i64 a0, .int .i64 a1] w fun e w' => e = .returned (.tuple #[.bool r1, .int .i64 r2]) ∧ Below w.heap.size w w' := by
  have HB := Aside0.mk (Below.refl w.heap.size w)
  have H : ((spec_l01In.f a0 0 15).bind fun t117 => (if t117 = true then ((spec_l06Flags.f a1).bind fun t118 => (if t118 = true then ((spec_l06Holds.f a0 a1).bind fun t119 => (some (t119, 0))) else (some (false, 4)))) else (some (false, 4)))) = some (r1, r2) := h
  clear h
  replace H := Option.bind_eq_some_iff.mp H
  obtain ⟨t117, A30, H⟩ := H
  replace H : (if t117 = true then ((spec_l06Flags.f a1).bind fun t118 => (if t118 = true then ((spec_l06Holds.f a0 a1).bind fun t119 => (some (t119, 0))) else (some (false, 4)))) else (some (false, 4))) = some (r1, r2) := H
  have A3 := Aside0.mk A30
  clear A30
  by_cases c4 : t117 = true
  · subst c4
    have H1 : ((spec_l06Flags.f a1).bind fun t118 => (if t118 = true then ((spec_l06Holds.f a0 a1).bind fun t119 => (some (t119, 0))) else (some (false, 4)))) = some (r1, r2) := by rw [if_pos rfl] at H; exact H
    clear H
    have H := H1
    clear H1
    replace H := Option.bind_eq_some_iff.mp H
    obtain ⟨t118, A50, H⟩ := H
    replace H : (if t118 = true then ((spec_l06Holds.f a0 a1).bind fun t119 => (some (t119, 0))) else (some (false, 4))) = some (r1, r2) := H
    have A5 := Aside0.mk A50
    clear A50
    by_cases c6 : t118 = true
    · subst c6
      have H1 : ((spec_l06Holds.f a0 a1).bind fun t119 => (some (t119, 0))) = some (r1, r2) := by rw [if_pos rfl] at H; exact H
      clear H
      have H := H1
      clear H1
      replace H := Option.bind_eq_some_iff.mp H
      obtain ⟨t119, A70, H⟩ := H
      replace H : (some (t119, 0)) = some (r1, r2) := H
      have A7 := Aside0.mk A70
      clear A70
      simp only [Option.some.injEq, Prod.mk.injEq] at H
      obtain ⟨rfl, rfl⟩ := H
      go_enter Try.func21, Try.ntmps21
      go_wp2_with (first | ((with_reducible refine gate_callee (f := 46) rfl ?_); refine goesL_ (some 7) rfl rfl Try.func46 (by kernel_rfl) rfl #[.int .i64 a0, .int .i64 0, .int .i64 15] rfl (by (try simp only [List.map_toArray, List.map_cons, List.map_nil]); first | done | rfl | (simp only [List.length_drop, List.length_take]; rfl)) ?_; (with_reducible refine (spec_l01In.calls a0 0 15 true _ A3.out).mono ?_); rintro e w' ⟨rfl, ⟨nd, rfl⟩⟩; refine ⟨_, rfl, ?_⟩) | (go_at_call 47; (with_reducible refine (spec_l06Flags.calls a1 true _ A5.out).mono ?_); rintro e w' ⟨rfl, ⟨nd, rfl⟩⟩) | ((with_reducible refine gate_callee (f := 48) rfl ?_); refine goesL_ (some 16) rfl rfl Try.func48 (by kernel_rfl) rfl #[.int .i64 a0, .int .i64 a1] rfl (by (try simp only [List.map_toArray, List.map_cons, List.map_nil]); first | done | rfl | (simp only [List.length_drop, List.length_take]; rfl)) ?_; (with_reducible refine (spec_l06Holds.calls a0 a1 t119 _ A7.out).mono ?_); rintro e w8 ⟨rfl, hb⟩; refine ⟨_, rfl, ?_⟩; have n0_ := Aside0.mk (below_step (by repeat (first | (with_reducible first | exact HB.out | apply below_alloc | apply pw_below_drewN | apply below_drew1) | exact HB.out)) hb); clear HB; have HB := n0_; clear n0_; (try clear hb); (try clear hb2); (try clear hk); (try clear hi)))
      go_ret2
      exact ⟨by first | rfl | (simp [errW_none, errW_some] <;> rfl) | (simp [*, errW_none, errW_some] <;> rfl), by repeat (first | (with_reducible first | exact HB.out | apply below_alloc | apply pw_below_drewN | apply below_drew1) | exact HB.out)⟩
    · replace c6 := Bool.eq_false_iff.mpr c6
      subst c6
      have H1 : (some (false, 4)) = some (r1, r2) := by rw [if_neg (show ¬ (false = true) by decide)] at H; exact H
      clear H
      have H := H1
      clear H1
      simp only [Option.some.injEq, Prod.mk.injEq] at H
      obtain ⟨rfl, rfl⟩ := H
      go_enter Try.func21, Try.ntmps21
      go_wp2_with (first | ((with_reducible refine gate_callee (f := 46) rfl ?_); refine goesL_ (some 7) rfl rfl Try.func46 (by kernel_rfl) rfl #[.int .i64 a0, .int .i64 0, .int .i64 15] rfl (by (try simp only [List.map_toArray, List.map_cons, List.map_nil]); first | done | rfl | (simp only [List.length_drop, List.length_take]; rfl)) ?_; (with_reducible refine (spec_l01In.calls a0 0 15 true _ A3.out).mono ?_); rintro e w' ⟨rfl, ⟨nd, rfl⟩⟩; refine ⟨_, rfl, ?_⟩) | (go_at_call 47; (with_reducible refine (spec_l06Flags.calls a1 false _ A5.out).mono ?_); rintro e w' ⟨rfl, ⟨nd, rfl⟩⟩))
      go_ret2
      exact ⟨by first | rfl | (simp [errW_none, errW_some] <;> rfl) | (simp [*, errW_none, errW_some] <;> rfl), by repeat (first | (with_reducible first | exact HB.out | apply below_alloc | apply pw_below_drewN | apply below_drew1) | exact HB.out)⟩
  · replace c4 := Bool.eq_false_iff.mpr c4
    subst c4
    have H1 : (some (false, 4)) = some (r1, r2) := by rw [if_neg (show ¬ (false = true) by decide)] at H; exact H
    clear H
    have H := H1
    clear H1
    simp only [Option.some.injEq, Prod.mk.injEq] at H
    obtain ⟨rfl, rfl⟩ := H
    go_enter Try.func21, Try.ntmps21
    go_wp2_with (first | ((with_reducible refine gate_callee (f := 46) rfl ?_); refine goesL_ (some 7) rfl rfl Try.func46 (by kernel_rfl) rfl #[.int .i64 a0, .int .i64 0, .int .i64 15] rfl (by (try simp only [List.map_toArray, List.map_cons, List.map_nil]); first | done | rfl | (simp only [List.length_drop, List.length_take]; rfl)) ?_; (with_reducible refine (spec_l01In.calls a0 0 15 false _ A3.out).mono ?_); rintro e w' ⟨rfl, ⟨nd, rfl⟩⟩; refine ⟨_, rfl, ?_⟩))
    go_ret2
    exact ⟨by first | rfl | (simp [errW_none, errW_some] <;> rfl) | (simp [*, errW_none, errW_some] <;> rfl), by repeat (first | (with_reducible first | exact HB.out | apply below_alloc | apply pw_below_drewN | apply below_drew1) | exact HB.out)⟩

/-! ### impl_within: function 49 -/
def impl_within.f (a0 : Int) (a1 : Int) (a2 : Int) : Option (Bool) := if a0 ≥ a1 then (some (decide (a0 ≤ a2))) else (some false)
set_option maxHeartbeats 8000000 in
set_option maxRecDepth 100000 in
theorem impl_within.calls (a0 : Int) (a1 : Int) (a2 : Int) (r : Bool) (w : World) (h : impl_within.f a0 a1 a2 = some r) :
    Calls Try.prog 49 #[.int .i64 a0, .int .i64 a1, .int .i64 a2] w fun e w' => e = .returned (.bool r) ∧ Drawn0 w w' := by
  have H : (if a0 ≥ a1 then (some (decide (a0 ≤ a2))) else (some false)) = some r := h
  clear h
  by_cases c4 : a0 ≥ a1
  · rw [if_pos c4] at H
    have c4b0 : decide (a1 ≤ a0) = true := decide_eq_true c4
    clear c4
    obtain rfl := Option.some.inj H
    go_enter Try.func49, Try.ntmps49
    go_wp2
    go_ret
    exact ⟨by first | rfl | (simp; done) | (simp [*]; done), by repeat (first | exact Drawn0.refl _ | apply Drawn0.step)⟩
  · rw [if_neg c4] at H
    have c4b0 : decide (a1 ≤ a0) = false := decide_eq_false c4
    clear c4
    obtain rfl := Option.some.inj H
    go_enter Try.func49, Try.ntmps49
    go_wp2
    go_ret
    exact ⟨by first | rfl | (simp; done) | (simp [*]; done), by repeat (first | exact Drawn0.refl _ | apply Drawn0.step)⟩

/-! ### impl_areFlags: function 50 -/
def impl_areFlags.f (a0 : Int) : Option (Bool) := some ((Go.bits .andNot .i64 a0 2245) == 0)
set_option maxHeartbeats 8000000 in
set_option maxRecDepth 100000 in
theorem impl_areFlags.calls (a0 : Int) (r : Bool) (w : World) (h : impl_areFlags.f a0 = some r) :
    Calls Try.prog 50 #[.int .i64 a0] w fun e w' => e = .returned (.bool r) ∧ Drawn0 w w' := by
  have H : (some ((Go.bits .andNot .i64 a0 2245) == 0)) = some r := h
  clear h
  obtain rfl := Option.some.inj H
  go_enter Try.func50, Try.ntmps50
  go_wp2
  go_ret
  exact ⟨by first | rfl | (simp; done) | (simp [*]; done), by repeat (first | exact Drawn0.refl _ | apply Drawn0.step)⟩

/-! ### impl_holds: function 51 -/
/-- Is one of these bits on? -/
def impl_holds.has (x bit : Int) : Bool := Go.bits .and .i64 x bit != 0
theorem impl_holds.closure (x bit : Int) (p : Addr) (w : World) (hc : w.cell? p = some (.int .i64 x)) :
    Calls Try.prog 69 #[.int .i64 bit, .pointer (some p)] w fun e w' => e = .returned (.bool (impl_holds.has x bit)) ∧ w = w' := by
  go_enter Try.func69, Try.ntmps69
  go_wp2
  go_ret
  exact ⟨rfl, rfl⟩
/-- What each pair of conditions asks. -/
def impl_holds.asks (x : Int) : List Bool :=
  [impl_holds.has x 2048, impl_holds.has x 1, impl_holds.has x 64, impl_holds.has x 1 || impl_holds.has x 64, impl_holds.has x 128, impl_holds.has x 4, impl_holds.has x 128 != impl_holds.has x 2048, impl_holds.has x 64 || (impl_holds.has x 128 != impl_holds.has x 2048)]
def impl_holds.f (a0 : Int) (a1 : Int) : Option (Bool) :=
  if 0 ≤ a0 then (if a0 ≤ 15 then some (rdOf false (impl_holds.asks a1) (a0 / 2) == decide (a0 % 2 = 0)) else none) else none
set_option maxHeartbeats 4000000 in
set_option maxRecDepth 100000 in
theorem impl_holds.calls (a0 : Int) (a1 : Int) (r : Bool) (w : World) (h : impl_holds.f a0 a1 = some r) :
    Calls Try.prog 51 #[.int .i64 a0, .int .i64 a1] w fun e w' => e = .returned (.bool r) ∧ Below w.heap.size w w' := by
  unfold impl_holds.f at h
  by_cases h0 : 0 ≤ a0
  · by_cases h1 : a0 ≤ 15
    · rw [if_pos h0, if_pos h1] at h
      have hmf : ∀ (fn : Fn) (first cap : Array Value) (w : World), (Instr.makeFunc fn first cap).run Try.prog w = .ok (.func fn first cap) w := fun _ _ _ _ => rfl
      have hidx : ∀ b0 b1 b2 b3 b4 b5 b6 b7 : Bool, [Value.bool b0, Value.bool b1, Value.bool b2, Value.bool b3, Value.bool b4, Value.bool b5, Value.bool b6, Value.bool b7][(a0 / 2).toNat]? = some (.bool (rdOf false [b0, b1, b2, b3, b4, b5, b6, b7] (a0 / 2))) := by
        intro b0 b1 b2 b3 b4 b5 b6 b7
        obtain ⟨n, hn⟩ : ∃ n : Nat, a0 / 2 = n := ⟨(a0 / 2).toNat, by omega⟩
        have hl : n < 8 := by omega
        rw [hn]
        unfold rdOf
        simp only [Int.toNat_natCast]
        match n, hl with
        | 0, _ => rfl
        | 1, _ => rfl
        | 2, _ => rfl
        | 3, _ => rfl
        | 4, _ => rfl
        | 5, _ => rfl
        | 6, _ => rfl
        | 7, _ => rfl
      go_enter Try.func51, Try.ntmps51
      go_wp2_with (go_at_call 69; refine (impl_holds.closure a1 _ _ _ (by go_simp)).mono ?_; rintro e w' ⟨rfl, rfl⟩)
      all_goals (go_ret; refine ⟨?_, ((Below.refl _ _).alloc (Nat.le_refl _) _).alloc (by simp) _⟩; obtain rfl := Option.some.inj h; clear hmf hidx; simp [impl_holds.asks, *]; try rfl)
    · rw [if_pos h0, if_neg h1] at h
      exact absurd h (by simp)
  · rw [if_neg h0] at h
    exact absurd h (by simp)


/-! ### impl_Holds: function 22 -/
def impl_Holds.f (a0 : Int) (a1 : Int) : Option (Bool × Int) := (impl_within.f a0 0 15).bind fun t120 => (if t120 = true then ((impl_areFlags.f a1).bind fun t121 => (if t121 = true then ((impl_holds.f a0 a1).bind fun t122 => (some (t122, 0))) else (some (false, 4)))) else (some (false, 4)))
set_option maxHeartbeats 8000000 in
set_option maxRecDepth 100000 in
theorem impl_Holds.calls (a0 : Int) (a1 : Int) (r1 : Bool) (r2 : Int) (w : World) (h : impl_Holds.f a0 a1 = some (r1, r2)) :
    Calls Try.prog 22 #[.int .i64 a0, .int .i64 a1] w fun e w' => e = .returned (.tuple #[.bool r1, .int .i64 r2]) ∧ Below w.heap.size w w' := by
  have HB := Aside0.mk (Below.refl w.heap.size w)
  have H : ((impl_within.f a0 0 15).bind fun t120 => (if t120 = true then ((impl_areFlags.f a1).bind fun t121 => (if t121 = true then ((impl_holds.f a0 a1).bind fun t122 => (some (t122, 0))) else (some (false, 4)))) else (some (false, 4)))) = some (r1, r2) := h
  clear h
  replace H := Option.bind_eq_some_iff.mp H
  obtain ⟨t120, A30, H⟩ := H
  replace H : (if t120 = true then ((impl_areFlags.f a1).bind fun t121 => (if t121 = true then ((impl_holds.f a0 a1).bind fun t122 => (some (t122, 0))) else (some (false, 4)))) else (some (false, 4))) = some (r1, r2) := H
  have A3 := Aside0.mk A30
  clear A30
  by_cases c4 : t120 = true
  · subst c4
    have H1 : ((impl_areFlags.f a1).bind fun t121 => (if t121 = true then ((impl_holds.f a0 a1).bind fun t122 => (some (t122, 0))) else (some (false, 4)))) = some (r1, r2) := by rw [if_pos rfl] at H; exact H
    clear H
    have H := H1
    clear H1
    replace H := Option.bind_eq_some_iff.mp H
    obtain ⟨t121, A50, H⟩ := H
    replace H : (if t121 = true then ((impl_holds.f a0 a1).bind fun t122 => (some (t122, 0))) else (some (false, 4))) = some (r1, r2) := H
    have A5 := Aside0.mk A50
    clear A50
    by_cases c6 : t121 = true
    · subst c6
      have H1 : ((impl_holds.f a0 a1).bind fun t122 => (some (t122, 0))) = some (r1, r2) := by rw [if_pos rfl] at H; exact H
      clear H
      have H := H1
      clear H1
      replace H := Option.bind_eq_some_iff.mp H
      obtain ⟨t122, A70, H⟩ := H
      replace H : (some (t122, 0)) = some (r1, r2) := H
      have A7 := Aside0.mk A70
      clear A70
      simp only [Option.some.injEq, Prod.mk.injEq] at H
      obtain ⟨rfl, rfl⟩ := H
      go_enter Try.func22, Try.ntmps22
      go_wp2_with (first | ((with_reducible refine gate_callee (f := 49) rfl ?_); refine goesL_ (some 7) rfl rfl Try.func49 (by kernel_rfl) rfl #[.int .i64 a0, .int .i64 0, .int .i64 15] rfl (by (try simp only [List.map_toArray, List.map_cons, List.map_nil]); first | done | rfl | (simp only [List.length_drop, List.length_take]; rfl)) ?_; (with_reducible refine (impl_within.calls a0 0 15 true _ A3.out).mono ?_); rintro e w' ⟨rfl, ⟨nd, rfl⟩⟩; refine ⟨_, rfl, ?_⟩) | (go_at_call 50; (with_reducible refine (impl_areFlags.calls a1 true _ A5.out).mono ?_); rintro e w' ⟨rfl, ⟨nd, rfl⟩⟩) | ((with_reducible refine gate_callee (f := 51) rfl ?_); refine goesL_ (some 16) rfl rfl Try.func51 (by kernel_rfl) rfl #[.int .i64 a0, .int .i64 a1] rfl (by (try simp only [List.map_toArray, List.map_cons, List.map_nil]); first | done | rfl | (simp only [List.length_drop, List.length_take]; rfl)) ?_; (with_reducible refine (impl_holds.calls a0 a1 t122 _ A7.out).mono ?_); rintro e w8 ⟨rfl, hb⟩; refine ⟨_, rfl, ?_⟩; have n0_ := Aside0.mk (below_step (by repeat (first | (with_reducible first | exact HB.out | apply below_alloc | apply pw_below_drewN | apply below_drew1) | exact HB.out)) hb); clear HB; have HB := n0_; clear n0_; (try clear hb); (try clear hb2); (try clear hk); (try clear hi)))
      go_ret2
      exact ⟨by first | rfl | (simp [errW_none, errW_some] <;> rfl) | (simp [*, errW_none, errW_some] <;> rfl), by repeat (first | (with_reducible first | exact HB.out | apply below_alloc | apply pw_below_drewN | apply below_drew1) | exact HB.out)⟩
    · replace c6 := Bool.eq_false_iff.mpr c6
      subst c6
      have H1 : (some (false, 4)) = some (r1, r2) := by rw [if_neg (show ¬ (false = true) by decide)] at H; exact H
      clear H
      have H := H1
      clear H1
      simp only [Option.some.injEq, Prod.mk.injEq] at H
      obtain ⟨rfl, rfl⟩ := H
      go_enter Try.func22, Try.ntmps22
      go_wp2_with (first | ((with_reducible refine gate_callee (f := 49) rfl ?_); refine goesL_ (some 7) rfl rfl Try.func49 (by kernel_rfl) rfl #[.int .i64 a0, .int .i64 0, .int .i64 15] rfl (by (try simp only [List.map_toArray, List.map_cons, List.map_nil]); first | done | rfl | (simp only [List.length_drop, List.length_take]; rfl)) ?_; (with_reducible refine (impl_within.calls a0 0 15 true _ A3.out).mono ?_); rintro e w' ⟨rfl, ⟨nd, rfl⟩⟩; refine ⟨_, rfl, ?_⟩) | (go_at_call 50; (with_reducible refine (impl_areFlags.calls a1 false _ A5.out).mono ?_); rintro e w' ⟨rfl, ⟨nd, rfl⟩⟩))
      go_ret2
      exact ⟨by first | rfl | (simp [errW_none, errW_some] <;> rfl) | (simp [*, errW_none, errW_some] <;> rfl), by repeat (first | (with_reducible first | exact HB.out | apply below_alloc | apply pw_below_drewN | apply below_drew1) | exact HB.out)⟩
  · replace c4 := Bool.eq_false_iff.mpr c4
    subst c4
    have H1 : (some (false, 4)) = some (r1, r2) := by rw [if_neg (show ¬ (false = true) by decide)] at H; exact H
    clear H
    have H := H1
    clear H1
    simp only [Option.some.injEq, Prod.mk.injEq] at H
    obtain ⟨rfl, rfl⟩ := H
    go_enter Try.func22, Try.ntmps22
    go_wp2_with (first | ((with_reducible refine gate_callee (f := 49) rfl ?_); refine goesL_ (some 7) rfl rfl Try.func49 (by kernel_rfl) rfl #[.int .i64 a0, .int .i64 0, .int .i64 15] rfl (by (try simp only [List.map_toArray, List.map_cons, List.map_nil]); first | done | rfl | (simp only [List.length_drop, List.length_take]; rfl)) ?_; (with_reducible refine (impl_within.calls a0 0 15 false _ A3.out).mono ?_); rintro e w' ⟨rfl, ⟨nd, rfl⟩⟩; refine ⟨_, rfl, ?_⟩))
    go_ret2
    exact ⟨by first | rfl | (simp [errW_none, errW_some] <;> rfl) | (simp [*, errW_none, errW_some] <;> rfl), by repeat (first | (with_reducible first | exact HB.out | apply below_alloc | apply pw_below_drewN | apply below_drew1) | exact HB.out)⟩

/-! ### laws_FnExactHolds: function 6 -/
def laws_FnExactHolds.f (a0 : Int) (a1 : Int) : Option (Bool) := (spec_Holds.f a0 a1).bind fun bt123 => ((impl_Holds.f a0 a1).bind fun bt125 => (if (bt125.1 != bt123.1) = true then (some false) else (if bt125.2 = bt123.2 then (some true) else (some false))))
set_option maxHeartbeats 8000000 in
set_option maxRecDepth 100000 in
theorem laws_FnExactHolds.calls (a0 : Int) (a1 : Int) (r : Bool) (w : World) (h : laws_FnExactHolds.f a0 a1 = some r) :
    Calls Try.prog 6 #[.int .i64 a0, .int .i64 a1] w fun e w' => e = .returned (.bool r) ∧ Below w.heap.size w w' := by
  have HB := Aside0.mk (Below.refl w.heap.size w)
  have H : ((spec_Holds.f a0 a1).bind fun bt123 => ((impl_Holds.f a0 a1).bind fun bt125 => (if (bt125.1 != bt123.1) = true then (some false) else (if bt125.2 = bt123.2 then (some true) else (some false))))) = some r := h
  clear h
  replace H := Option.bind_eq_some_iff.mp H
  obtain ⟨⟨t123, t124⟩, A30, H⟩ := H
  replace H : ((impl_Holds.f a0 a1).bind fun bt125 => (if (bt125.1 != t123) = true then (some false) else (if bt125.2 = t124 then (some true) else (some false)))) = some r := H
  have A3 := Aside0.mk A30
  clear A30
  replace H := Option.bind_eq_some_iff.mp H
  obtain ⟨⟨t125, t126⟩, A40, H⟩ := H
  replace H : (if (t125 != t123) = true then (some false) else (if t126 = t124 then (some true) else (some false))) = some r := H
  have A4 := Aside0.mk A40
  clear A40
  by_cases c5 : (t125 != t123) = true
  · rw [if_pos c5] at H
    have c5b0 : (t125 != t123) = true := c5
    (try (have c5b1 : decide (t125 = t123) = false := by simpa using c5))
    (try (have c5b2 : (t125 == t123) = false := by simpa using c5))
    (try (have c5b3 : ¬ (t125 = t123) := by simpa using c5))
    clear c5
    obtain rfl := Option.some.inj H
    go_enter Try.func6, Try.ntmps6
    go_wp2_with (first | ((with_reducible refine gate_callee (f := 21) rfl ?_); refine goesL_ (some 12) rfl rfl Try.func21 (by kernel_rfl) rfl #[.int .i64 a0, .int .i64 a1] rfl (by (try simp only [List.map_toArray, List.map_cons, List.map_nil]); first | done | rfl | (simp only [List.length_drop, List.length_take]; rfl)) ?_; (with_reducible refine (spec_Holds.calls a0 a1 t123 t124 _ A3.out).mono ?_); rintro e w6 ⟨rfl, hb⟩; refine ⟨_, rfl, ?_⟩; have n0_ := Aside0.mk (below_step (by repeat (first | (with_reducible first | exact HB.out | apply below_alloc | apply pw_below_drewN | apply below_drew1) | exact HB.out)) hb); clear HB; have HB := n0_; clear n0_; (try clear hb); (try clear hb2); (try clear hk); (try clear hi)) | ((with_reducible refine gate_callee (f := 22) rfl ?_); refine goesL_ (some 18) rfl rfl Try.func22 (by kernel_rfl) rfl #[.int .i64 a0, .int .i64 a1] rfl (by (try simp only [List.map_toArray, List.map_cons, List.map_nil]); first | done | rfl | (simp only [List.length_drop, List.length_take]; rfl)) ?_; (with_reducible refine (impl_Holds.calls a0 a1 t125 t126 _ A4.out).mono ?_); rintro e w7 ⟨rfl, hb⟩; refine ⟨_, rfl, ?_⟩; have n0_ := Aside0.mk (below_step (by repeat (first | (with_reducible first | exact HB.out | apply below_alloc | apply pw_below_drewN | apply below_drew1) | exact HB.out)) hb); clear HB; have HB := n0_; clear n0_; (try clear hb); (try clear hb2); (try clear hk); (try clear hi)))
    go_ret
    exact ⟨by first | rfl | (simp [errW_none, errW_some] <;> rfl) | (simp [*, errW_none, errW_some] <;> rfl), by repeat (first | (with_reducible first | exact HB.out | apply below_alloc | apply pw_below_drewN | apply below_drew1) | exact HB.out)⟩
  · rw [if_neg c5] at H
    have c5b0 : (t125 != t123) = false := by simpa using c5
    (try (have c5b1 : decide (t125 = t123) = true := by simpa using c5))
    (try (have c5b2 : (t125 == t123) = true := by simpa using c5))
    clear c5
    by_cases c8 : t126 = t124
    · rw [if_pos c8] at H
      have c8b0 : (t126 == t124) = true := beq_iff_eq.mpr c8
      have c8b1 : (t126 != t124) = false := bne_eq_false_iff_eq.mpr c8
      clear c8
      obtain rfl := Option.some.inj H
      go_enter Try.func6, Try.ntmps6
      go_wp2_with (first | ((with_reducible refine gate_callee (f := 21) rfl ?_); refine goesL_ (some 12) rfl rfl Try.func21 (by kernel_rfl) rfl #[.int .i64 a0, .int .i64 a1] rfl (by (try simp only [List.map_toArray, List.map_cons, List.map_nil]); first | done | rfl | (simp only [List.length_drop, List.length_take]; rfl)) ?_; (with_reducible refine (spec_Holds.calls a0 a1 t123 t124 _ A3.out).mono ?_); rintro e w9 ⟨rfl, hb⟩; refine ⟨_, rfl, ?_⟩; have n0_ := Aside0.mk (below_step (by repeat (first | (with_reducible first | exact HB.out | apply below_alloc | apply pw_below_drewN | apply below_drew1) | exact HB.out)) hb); clear HB; have HB := n0_; clear n0_; (try clear hb); (try clear hb2); (try clear hk); (try clear hi)) | ((with_reducible refine gate_callee (f := 22) rfl ?_); refine goesL_ (some 18) rfl rfl Try.func22 (by kernel_rfl) rfl #[.int .i64 a0, .int .i64 a1] rfl (by (try simp only [List.map_toArray, List.map_cons, List.map_nil]); first | done | rfl | (simp only [List.length_drop, List.length_take]; rfl)) ?_; (with_reducible refine (impl_Holds.calls a0 a1 t125 t126 _ A4.out).mono ?_); rintro e w10 ⟨rfl, hb⟩; refine ⟨_, rfl, ?_⟩; have n0_ := Aside0.mk (below_step (by repeat (first | (with_reducible first | exact HB.out | apply below_alloc | apply pw_below_drewN | apply below_drew1) | exact HB.out)) hb); clear HB; have HB := n0_; clear n0_; (try clear hb); (try clear hb2); (try clear hk); (try clear hi)))
      go_ret
      exact ⟨by first | rfl | (simp [errW_none, errW_some] <;> rfl) | (simp [*, errW_none, errW_some] <;> rfl), by repeat (first | (with_reducible first | exact HB.out | apply below_alloc | apply pw_below_drewN | apply below_drew1) | exact HB.out)⟩
    · rw [if_neg c8] at H
      have c8b0 : (t126 == t124) = false := beq_eq_false_iff_ne.mpr c8
      have c8b1 : (t126 != t124) = true := bne_iff_ne.mpr c8
      obtain rfl := Option.some.inj H
      go_enter Try.func6, Try.ntmps6
      go_wp2_with (first | ((with_reducible refine gate_callee (f := 21) rfl ?_); refine goesL_ (some 12) rfl rfl Try.func21 (by kernel_rfl) rfl #[.int .i64 a0, .int .i64 a1] rfl (by (try simp only [List.map_toArray, List.map_cons, List.map_nil]); first | done | rfl | (simp only [List.length_drop, List.length_take]; rfl)) ?_; (with_reducible refine (spec_Holds.calls a0 a1 t123 t124 _ A3.out).mono ?_); rintro e w11 ⟨rfl, hb⟩; refine ⟨_, rfl, ?_⟩; have n0_ := Aside0.mk (below_step (by repeat (first | (with_reducible first | exact HB.out | apply below_alloc | apply pw_below_drewN | apply below_drew1) | exact HB.out)) hb); clear HB; have HB := n0_; clear n0_; (try clear hb); (try clear hb2); (try clear hk); (try clear hi)) | ((with_reducible refine gate_callee (f := 22) rfl ?_); refine goesL_ (some 18) rfl rfl Try.func22 (by kernel_rfl) rfl #[.int .i64 a0, .int .i64 a1] rfl (by (try simp only [List.map_toArray, List.map_cons, List.map_nil]); first | done | rfl | (simp only [List.length_drop, List.length_take]; rfl)) ?_; (with_reducible refine (impl_Holds.calls a0 a1 t125 t126 _ A4.out).mono ?_); rintro e w12 ⟨rfl, hb⟩; refine ⟨_, rfl, ?_⟩; have n0_ := Aside0.mk (below_step (by repeat (first | (with_reducible first | exact HB.out | apply below_alloc | apply pw_below_drewN | apply below_drew1) | exact HB.out)) hb); clear HB; have HB := n0_; clear n0_; (try clear hb); (try clear hb2); (try clear hk); (try clear hi)))
      go_ret
      exact ⟨by first | rfl | (simp [errW_none, errW_some] <;> rfl) | (simp [*, errW_none, errW_some] <;> rfl), by repeat (first | (with_reducible first | exact HB.out | apply below_alloc | apply pw_below_drewN | apply below_drew1) | exact HB.out)⟩

/-- THE ONE PURE STATEMENT of laws_FnExactHolds: yours. -/
def laws_FnExactHolds.Pure : Prop := ∀ (a0 : Int) (a1 : Int), (Lit.int .i64 a0).wf = true → (Lit.int .i64 a1).wf = true → laws_FnExactHolds.f a0 a1 = some true
theorem laws_FnExactHolds.walk (P : laws_FnExactHolds.Pure) (a0 : Int) (a1 : Int) (w : World) (w0 : (Lit.int .i64 a0).wf = true) (w1 : (Lit.int .i64 a1).wf = true) :
    Calls Try.prog 6 #[.int .i64 a0, .int .i64 a1] w fun e w' => e = .returned (.bool true) ∧ Below w.heap.size w w' := by
  have h := P a0 a1 w0 w1
  refine (laws_FnExactHolds.calls a0 a1 true w h).mono ?_
  rintro e w' ⟨rfl, hd⟩
  exact ⟨rfl, hd⟩

end Go.Proofs.Ytmnjomglpkbifaa.PFnExactHolds
