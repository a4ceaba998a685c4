-- Written for this claim by the session's own program, out of the translation. Not trusted: Lean checks it.
import Derived.Test.YtdljhgmgpnpfiaaPFnShiftsx0
namespace Go.Proofs.Ytdljhgmgpnpfiaa.PFnShifts
open Go.RowKit Go.Proofs.YtdljhgmgpnpfiaaW.PrintWords Go.Proofs.YtdljhgmgpnpfiaaW.PrintLast Go.Proofs.YtdljhgmgpnpfiaaW.PrintMore
attribute [local go_sem] max2_int min2_int max_two min_two max_three min_three max_four min_four   -- for this text's walks alone
set_option linter.unusedVariables false
set_option linter.unusedSimpArgs false

/-! ### spec_l01Size: function 39 -/
def spec_l01Size.f (a0 : Int) : Option (Bool) := if a0 = 1 then (some true) else (if a0 = 2 then (some true) else (if a0 = 4 then (some true) else (some (a0 == 8))))
set_option maxHeartbeats 8000000 in
set_option maxRecDepth 100000 in
theorem spec_l01Size.calls (a0 : Int) (r : Bool) (w : World) (h : spec_l01Size.f a0 = some r) :
    Calls Try.prog 39 #[.int .i64 a0] w fun e w' => e = .returned (.bool r) ∧ Drawn0 w w' := by
  have H : (if a0 = 1 then (some true) else (if a0 = 2 then (some true) else (if a0 = 4 then (some true) else (some (a0 == 8))))) = some r := h
  clear h
  by_cases c2 : a0 = 1
  · rw [if_pos c2] at H
    have c2b0 : (a0 == 1) = true := beq_iff_eq.mpr c2
    have c2b1 : (a0 != 1) = false := bne_eq_false_iff_eq.mpr c2
    clear c2
    obtain rfl := Option.some.inj H
    go_enter Try.func39, Try.ntmps39
    go_wp2
    go_ret
    exact ⟨by first | rfl | (simp; done) | (simp [*]; done), by repeat (first | exact Drawn0.refl _ | apply Drawn0.step)⟩
  · rw [if_neg c2] at H
    have c2b0 : (a0 == 1) = false := beq_eq_false_iff_ne.mpr c2
    have c2b1 : (a0 != 1) = true := bne_iff_ne.mpr c2
    by_cases c3 : a0 = 2
    · rw [if_pos c3] at H
      have c3b0 : (a0 == 2) = true := beq_iff_eq.mpr c3
      have c3b1 : (a0 != 2) = false := bne_eq_false_iff_eq.mpr c3
      clear c3
      obtain rfl := Option.some.inj H
      go_enter Try.func39, Try.ntmps39
      go_wp2
      go_ret
      exact ⟨by first | rfl | (simp; done) | (simp [*]; done), by repeat (first | exact Drawn0.refl _ | apply Drawn0.step)⟩
    · rw [if_neg c3] at H
      have c3b0 : (a0 == 2) = false := beq_eq_false_iff_ne.mpr c3
      have c3b1 : (a0 != 2) = true := bne_iff_ne.mpr c3
      by_cases c4 : a0 = 4
      · rw [if_pos c4] at H
        have c4b0 : (a0 == 4) = true := beq_iff_eq.mpr c4
        have c4b1 : (a0 != 4) = false := bne_eq_false_iff_eq.mpr c4
        clear c4
        obtain rfl := Option.some.inj H
        go_enter Try.func39, Try.ntmps39
        go_wp2
        go_ret
        exact ⟨by first | rfl | (simp; done) | (simp [*]; done), by repeat (first | exact Drawn0.refl _ | apply Drawn0.step)⟩
      · rw [if_neg c4] at H
        have c4b0 : (a0 == 4) = false := beq_eq_false_iff_ne.mpr c4
        have c4b1 : (a0 != 4) = true := bne_iff_ne.mpr c4
        obtain rfl := Option.some.inj H
        go_enter Try.func39, Try.ntmps39
        go_wp2
        go_ret
        exact ⟨by first | rfl | (simp; done) | (simp [*]; done), by repeat (first | exact Drawn0.refl _ | apply Drawn0.step)⟩

/-! ### spec_l06Flags: function 40 -/
def spec_l06Flags.f (a0 : Int) : Option (Bool) := if a0 ≥ 0 then (some ((Go.bits .and .i64 a0 2245) == a0)) else (some false)
set_option maxHeartbeats 8000000 in
set_option maxRecDepth 100000 in
theorem spec_l06Flags.calls (a0 : Int) (r : Bool) (w : World) (h : spec_l06Flags.f a0 = some r) :
    Calls Try.prog 40 #[.int .i64 a0] w fun e w' => e = .returned (.bool r) ∧ Drawn0 w w' := by
  have H : (if a0 ≥ 0 then (some ((Go.bits .and .i64 a0 2245) == a0)) else (some false)) = some r := h
  clear h
  by_cases c2 : a0 ≥ 0
  · rw [if_pos c2] at H
    have c2b0 : decide (0 ≤ a0) = true := decide_eq_true c2
    clear c2
    obtain rfl := Option.some.inj H
    go_enter Try.func40, Try.ntmps40
    go_wp2
    go_ret
    exact ⟨by first | rfl | (simp; done) | (simp [*]; done), by repeat (first | exact Drawn0.refl _ | apply Drawn0.step)⟩
  · rw [if_neg c2] at H
    have c2b0 : decide (0 ≤ a0) = false := decide_eq_false c2
    clear c2
    obtain rfl := Option.some.inj H
    go_enter Try.func40, Try.ntmps40
    go_wp2
    go_ret
    exact ⟨by first | rfl | (simp; done) | (simp [*]; done), by repeat (first | exact Drawn0.refl _ | apply Drawn0.step)⟩

/-! ### spec_l01In: function 45 -/
def spec_l01In.f (a0 : Int) (a1 : Int) (a2 : Int) : Option (Bool) := if a0 ≥ a1 then (some (decide (a0 ≤ a2))) else (some false)
set_option maxHeartbeats 8000000 in
set_option maxRecDepth 100000 in
theorem spec_l01In.calls (a0 : Int) (a1 : Int) (a2 : Int) (r : Bool) (w : World) (h : spec_l01In.f a0 a1 a2 = some r) :
    Calls Try.prog 45 #[.int .i64 a0, .int .i64 a1, .int .i64 a2] w fun e w' => e = .returned (.bool r) ∧ Drawn0 w w' := by
  have H : (if a0 ≥ a1 then (some (decide (a0 ≤ a2))) else (some false)) = some r := h
  clear h
  by_cases c4 : a0 ≥ a1
  · rw [if_pos c4] at H
    have c4b0 : decide (a1 ≤ a0) = true := decide_eq_true c4
    clear c4
    obtain rfl := Option.some.inj H
    go_enter Try.func45, Try.ntmps45
    go_wp2
    go_ret
    exact ⟨by first | rfl | (simp; done) | (simp [*]; done), by repeat (first | exact Drawn0.refl _ | apply Drawn0.step)⟩
  · rw [if_neg c4] at H
    have c4b0 : decide (a1 ≤ a0) = false := decide_eq_false c4
    clear c4
    obtain rfl := Option.some.inj H
    go_enter Try.func45, Try.ntmps45
    go_wp2
    go_ret
    exact ⟨by first | rfl | (simp; done) | (simp [*]; done), by repeat (first | exact Drawn0.refl _ | apply Drawn0.step)⟩

/-! ### spec_l01Bit: function 94 -/
def spec_l01Bit.f (a0 : Int) (a1 : Int) : Option (Int) := if 0 ≤ (IntKind.u64.wrap (a1)) then (if (Int.tmod (shr .u64 (IntKind.u64.wrap (a0)) (IntKind.u64.wrap (a1))) 2) = 1 then (some 1) else (some 0)) else (none)
set_option maxHeartbeats 8000000 in
set_option maxRecDepth 100000 in
theorem spec_l01Bit.calls (a0 : Int) (a1 : Int) (r : Int) (w : World) (h : spec_l01Bit.f a0 a1 = some r) :
    Calls Try.prog 94 #[.int .i64 a0, .int .i64 a1] w fun e w' => e = .returned (.int .i64 r) ∧ Drawn0 w w' := by
  have H : (if 0 ≤ (IntKind.u64.wrap (a1)) then (if (Int.tmod (shr .u64 (IntKind.u64.wrap (a0)) (IntKind.u64.wrap (a1))) 2) = 1 then (some 1) else (some 0)) else (none)) = some r := h
  clear h
  obtain ⟨ji3, hji3⟩ : ∃ j_ : Int, (IntKind.u64.wrap (a1)) = j_ := ⟨_, rfl⟩
  replace H : (if 0 ≤ (ji3) then (if (Int.tmod (shr .u64 (IntKind.u64.wrap (a0)) (ji3)) 2) = 1 then (some 1) else (some 0)) else (none)) = some r := by first | (rw [hji3] at H; exact H) | (simp only [hji3] at H ⊢; exact H)
  by_cases c4 : 0 ≤ (ji3)
  · rw [if_pos c4] at H
    have c4b0 := eq_true c4
    have c4b1 : decide (0 ≤ (ji3)) = true := decide_eq_true c4
    clear c4
    obtain ⟨ji5, hji5⟩ : ∃ j_ : Int, (shr .u64 (IntKind.u64.wrap (a0)) (ji3)) = j_ := ⟨_, rfl⟩
    replace H : (if (Int.tmod (ji5) 2) = 1 then (some 1) else (some 0)) = some r := by first | (rw [hji5] at H; exact H) | (simp only [hji5] at H ⊢; exact H)
    have hji5_ : ((IntKind.u64.wrap (a0)) / 2 ^ min (ji3).toNat 64) = ji5 := hji5
    have hji5z : (ji3) ≤ 64 → ((IntKind.u64.wrap (a0)) / 2 ^ (ji3).toNat) = ji5 := shr_small hji5
    by_cases c6 : (Int.tmod (ji5) 2) = 1
    · rw [if_pos c6] at H
      have c6b0 : ((Int.tmod (ji5) 2) == 1) = true := beq_iff_eq.mpr c6
      have c6b1 : ((Int.tmod (ji5) 2) != 1) = false := bne_eq_false_iff_eq.mpr c6
      clear c6
      obtain rfl := Option.some.inj H
      go_enter Try.func94, Try.ntmps94
      go_wp2
      go_ret
      exact ⟨by first | rfl | (simp; done) | (simp only [← hji3, ← hji5] <;> (first | rfl | simp)) | (simp [*]; done), by repeat (first | exact Drawn0.refl _ | apply Drawn0.step)⟩
    · rw [if_neg c6] at H
      have c6b0 : ((Int.tmod (ji5) 2) == 1) = false := beq_eq_false_iff_ne.mpr c6
      have c6b1 : ((Int.tmod (ji5) 2) != 1) = true := bne_iff_ne.mpr c6
      obtain rfl := Option.some.inj H
      go_enter Try.func94, Try.ntmps94
      go_wp2
      go_ret
      exact ⟨by first | rfl | (simp; done) | (simp only [← hji3, ← hji5] <;> (first | rfl | simp)) | (simp [*]; done), by repeat (first | exact Drawn0.refl _ | apply Drawn0.step)⟩
  · rw [if_neg c4] at H
    exact absurd H (by simp)

/-! ### spec_l01Zero: function 61 -/
def spec_l01Zero.l0 : Nat → Int → Int → Int → Option (Int)
  | 0, _, _, _ => none
  | k + 1, x0, x5, x6 => if x6 ≥ 0 then ((spec_l01Bit.f x0 x6).bind fun t101 => (spec_l01Zero.l0 k x0 (IntKind.u64.wrap ((IntKind.u64.wrap (2 * x5)) + (IntKind.u64.wrap (t101)))) (wrap64 (x6 - 1)))) else (some (wrap64 (x5)))
def spec_l01Zero.f (k : Nat) (a0 : Int) (a1 : Int) : Option (Int) := spec_l01Zero.l0 k a0 0 (wrap64 ((wrap64 (8 * a1)) - 1))
theorem spec_l01Zero.mono_l : ∀ k, (∀ y0 y1 y2, LeO (spec_l01Zero.l0 k y0 y1 y2) (spec_l01Zero.l0 (k + 1) y0 y1 y2))
  | 0 => fun _ _ _ r h => by simp [spec_l01Zero.l0] at h
  | k + 1 => by
    have ih0 := spec_l01Zero.mono_l k
    · intro y0 y1 y2
      unfold spec_l01Zero.l0
      repeat' first
      | (with_reducible exact ih0 _ _ _)
      | (with_reducible exact LeO.refl _)
      | (with_reducible exact LeO.none _)
      | (with_reducible refine LeO.ite ?_ ?_)
      | (with_reducible refine LeO.bind ?_ (fun _ => ?_))
      | exact ih0 _ _ _
      | exact LeO.none _
      | refine LeO.ite ?_ ?_
      | refine LeO.bind ?_ (fun _ => ?_)
theorem spec_l01Zero.mono : ∀ a0 a1 k, LeO (spec_l01Zero.f k a0 a1) (spec_l01Zero.f (k + 1) a0 a1) := by
  intro a0 a1 k
  have ih0 := spec_l01Zero.mono_l k
  unfold spec_l01Zero.f
  repeat' first
      | (with_reducible exact ih0 _ _ _)
      | (with_reducible exact LeO.refl _)
      | (with_reducible exact LeO.none _)
      | (with_reducible refine LeO.ite ?_ ?_)
      | (with_reducible refine LeO.bind ?_ (fun _ => ?_))
      | exact ih0 _ _ _
      | exact LeO.none _
      | refine LeO.ite ?_ ?_
      | refine LeO.bind ?_ (fun _ => ?_)
set_option maxHeartbeats 8000000 in
set_option maxRecDepth 100000 in
theorem spec_l01Zero.calls (k : Nat) (a0 : Int) (a1 : Int) (r : Int) (w : World) (h : spec_l01Zero.f k a0 a1 = some r) :
    Calls Try.prog 61 #[.int .i64 a0, .int .i64 a1] w fun e w' => e = .returned (.int .i64 r) ∧ Drawn0 w w' := by
  have H : (spec_l01Zero.l0 k a0 0 (wrap64 ((wrap64 (8 * a1)) - 1))) = some r := h
  clear h
  have H' := Aside0.mk H
  clear H
  go_enter Try.func61, Try.ntmps61
  go_wp2
  go_loopg [5, 6] k (fun kq v5 v6 w' => ∃ (x5_1 : Int) (x6_1 : Int), v5 = .int .u64 x5_1 ∧ v6 = .int .i64 x6_1 ∧ Aside0 (spec_l01Zero.l0 kq a0 x5_1 x6_1 = some r) ∧ Aside0 (kq ≤ k) ∧ Drawn0 w w')
  case atStart => exact ⟨(0), (wrap64 ((wrap64 (8 * a1)) - 1)), (by first | rfl | (simp; done) | (simp [*]; done)), (by first | rfl | (simp; done) | (simp [*]; done)), H', ⟨Nat.le_refl _⟩, by repeat (first | exact Drawn0.refl _ | apply Drawn0.step)⟩
  case round =>
    clear H'
    try clear p2
    obtain ⟨x5_1, x6_1, rfl, rfl, HA, HK1, ⟨m1, rfl⟩⟩ := hrel
    cases gk with
    | zero => exact absurd HA.out (by simp [spec_l01Zero.l0])
    | succ k1 =>
      have H := HA.out
      clear HA
      simp only [spec_l01Zero.l0] at H
      by_cases c3 : x6_1 ≥ 0
      · rw [if_pos c3] at H
        have c3b0 : decide (0 ≤ x6_1) = true := decide_eq_true c3
        clear c3
        replace H := Option.bind_eq_some_iff.mp H
        obtain ⟨t101, A40, H⟩ := H
        replace H : (spec_l01Zero.l0 k1 a0 (IntKind.u64.wrap ((IntKind.u64.wrap (2 * x5_1)) + (IntKind.u64.wrap (t101)))) (wrap64 (x6_1 - 1))) = some r := H
        have A4 := Aside0.mk A40
        clear A40
        have H' := Aside0.mk H
        clear H
        go_wp2_with (first | ((with_reducible refine gate_callee (f := 94) rfl ?_); refine goesL_ (some 18) rfl rfl Try.func94 (by kernel_rfl) rfl #[.int .i64 a0, .int .i64 x6_1] rfl (by (try simp only [List.map_toArray, List.map_cons, List.map_nil]); first | done | rfl | (simp only [List.length_drop, List.length_take]; rfl)) ?_; (with_reducible refine (spec_l01Bit.calls a0 x6_1 t101 _ A4.out).mono ?_); rintro e w' ⟨rfl, ⟨nd, rfl⟩⟩; refine ⟨_, rfl, ?_⟩))
        go_roundg k1
        case measure => have := HK1.out; omega
        case rel => exact ⟨(IntKind.u64.wrap ((IntKind.u64.wrap (2 * x5_1)) + (IntKind.u64.wrap (t101)))), (wrap64 (x6_1 - 1)), (by first | rfl | (simp; done) | (simp [*]; done)), (by first | rfl | (simp; done) | (simp [*]; done)), H', ⟨by have := HK1.out; omega⟩, by repeat (first | exact Drawn0.refl _ | apply Drawn0.step)⟩
      · rw [if_neg c3] at H
        have c3b0 : decide (0 ≤ x6_1) = false := decide_eq_false c3
        clear c3
        obtain rfl := Option.some.inj H
        go_wp2
        go_ret
        exact ⟨by first | rfl | (simp; done) | (simp [*]; done), by repeat (first | exact Drawn0.refl _ | apply Drawn0.step)⟩

/-! ### spec_l06If: function 80 -/
def spec_l06If.f (a0 : Bool) (a1 : Int) : Option (Int) := if a0 = true then (some a1) else (some 0)
set_option maxHeartbeats 8000000 in
set_option maxRecDepth 100000 in
theorem spec_l06If.calls (a0 : Bool) (a1 : Int) (r : Int) (w : World) (h : spec_l06If.f a0 a1 = some r) :
    Calls Try.prog 80 #[.bool a0, .int .i64 a1] w fun e w' => e = .returned (.int .i64 r) ∧ Drawn0 w w' := by
  have H : (if a0 = true then (some a1) else (some 0)) = some r := h
  clear h
  by_cases c3 : a0 = true
  · subst c3
    have H1 : (some a1) = some r := by rw [if_pos rfl] at H; exact H
    clear H
    have H := H1
    clear H1
    obtain rfl := Option.some.inj H
    go_enter Try.func80, Try.ntmps80
    go_wp2
    go_ret
    exact ⟨by first | rfl | (simp; done) | (simp [*]; done), by repeat (first | exact Drawn0.refl _ | apply Drawn0.step)⟩
  · replace c3 := Bool.eq_false_iff.mpr c3
    subst c3
    have H1 : (some 0) = some r := by rw [if_neg (show ¬ (false = true) by decide)] at H; exact H
    clear H
    have H := H1
    clear H1
    obtain rfl := Option.some.inj H
    go_enter Try.func80, Try.ntmps80
    go_wp2
    go_ret
    exact ⟨by first | rfl | (simp; done) | (simp [*]; done), by repeat (first | exact Drawn0.refl _ | apply Drawn0.step)⟩

/-! ### spec_l06Szp: function 82 -/
def spec_l06Szp.l0 : Nat → Int → Int → Int → Int → Option (Int)
  | 0, _, _, _, _ => none
  | k + 1, x0, x1, x5, x6 => if x6 < 8 then ((spec_l01Bit.f x1 x6).bind fun t102 => (spec_l06Szp.l0 k x0 x1 (wrap64 (x5 + t102)) (wrap64 (x6 + 1)))) else ((spec_l01Bit.f x1 (wrap64 ((wrap64 (8 * x0)) - 1))).bind fun t103 => ((spec_l06If.f (t103 == 1) 128).bind fun t104 => ((spec_l01Zero.f k x1 x0).bind fun t105 => ((spec_l06If.f (t105 == 0) 64).bind fun t106 => ((spec_l06If.f ((Int.tmod x5 2) == 0) 4).bind fun t107 => (some (Go.bits .or .i64 (Go.bits .or .i64 t104 t106) t107)))))))
def spec_l06Szp.f (k : Nat) (a0 : Int) (a1 : Int) : Option (Int) := spec_l06Szp.l0 k a0 a1 0 0
theorem spec_l06Szp.mono_l : ∀ k, (∀ y0 y1 y2 y3, LeO (spec_l06Szp.l0 k y0 y1 y2 y3) (spec_l06Szp.l0 (k + 1) y0 y1 y2 y3))
  | 0 => fun _ _ _ _ r h => by simp [spec_l06Szp.l0] at h
  | k + 1 => by
    have ih0 := spec_l06Szp.mono_l k
    · intro y0 y1 y2 y3
      unfold spec_l06Szp.l0
      repeat' first
      | (with_reducible exact ih0 _ _ _ _)
      | (with_reducible exact spec_l01Zero.mono _ _ _)
      | (with_reducible exact LeO.refl _)
      | (with_reducible exact LeO.none _)
      | (with_reducible refine LeO.ite ?_ ?_)
      | (with_reducible refine LeO.bind ?_ (fun _ => ?_))
      | exact ih0 _ _ _ _
      | exact spec_l01Zero.mono _ _ _
      | exact LeO.none _
      | refine LeO.ite ?_ ?_
      | refine LeO.bind ?_ (fun _ => ?_)
theorem spec_l06Szp.mono : ∀ a0 a1 k, LeO (spec_l06Szp.f k a0 a1) (spec_l06Szp.f (k + 1) a0 a1) := by
  intro a0 a1 k
  have ih0 := spec_l06Szp.mono_l k
  unfold spec_l06Szp.f
  repeat' first
      | (with_reducible exact ih0 _ _ _ _)
      | (with_reducible exact spec_l01Zero.mono _ _ _)
      | (with_reducible exact LeO.refl _)
      | (with_reducible exact LeO.none _)
      | (with_reducible refine LeO.ite ?_ ?_)
      | (with_reducible refine LeO.bind ?_ (fun _ => ?_))
      | exact ih0 _ _ _ _
      | exact spec_l01Zero.mono _ _ _
      | exact LeO.none _
      | refine LeO.ite ?_ ?_
      | refine LeO.bind ?_ (fun _ => ?_)
set_option maxHeartbeats 8000000 in
set_option maxRecDepth 100000 in
theorem spec_l06Szp.calls (k : Nat) (a0 : Int) (a1 : Int) (r : Int) (w : World) (h : spec_l06Szp.f k a0 a1 = some r) :
    Calls Try.prog 82 #[.int .i64 a0, .int .i64 a1] w fun e w' => e = .returned (.int .i64 r) ∧ Drawn0 w w' := by
  have H : (spec_l06Szp.l0 k a0 a1 0 0) = some r := h
  clear h
  have H' := Aside0.mk H
  clear H
  go_enter Try.func82, Try.ntmps82
  go_wp2
  go_loopg [5, 6] k (fun kq v5 v6 w' => ∃ (x5_1 : Int) (x6_1 : Int), v5 = .int .i64 x5_1 ∧ v6 = .int .i64 x6_1 ∧ Aside0 (spec_l06Szp.l0 kq a0 a1 x5_1 x6_1 = some r) ∧ Aside0 (kq ≤ k) ∧ Drawn0 w w')
  case atStart => exact ⟨(0), (0), (by first | rfl | (simp; done) | (simp [*]; done)), (by first | rfl | (simp; done) | (simp [*]; done)), H', ⟨Nat.le_refl _⟩, by repeat (first | exact Drawn0.refl _ | apply Drawn0.step)⟩
  case round =>
    clear H'
    try clear p2
    obtain ⟨x5_1, x6_1, rfl, rfl, HA, HK1, ⟨m1, rfl⟩⟩ := hrel
    cases gk with
    | zero => exact absurd HA.out (by simp [spec_l06Szp.l0])
    | succ k1 =>
      have H := HA.out
      clear HA
      simp only [spec_l06Szp.l0] at H
      by_cases c3 : x6_1 < 8
      · rw [if_pos c3] at H
        have c3b0 : decide (x6_1 < 8) = true := decide_eq_true c3
        clear c3
        replace H := Option.bind_eq_some_iff.mp H
        obtain ⟨t102, A40, H⟩ := H
        replace H : (spec_l06Szp.l0 k1 a0 a1 (wrap64 (x5_1 + t102)) (wrap64 (x6_1 + 1))) = some r := H
        have A4 := Aside0.mk A40
        clear A40
        have H' := Aside0.mk H
        clear H
        go_wp2_with (first | ((with_reducible refine gate_callee (f := 94) rfl ?_); refine goesL_ (some 14) rfl rfl Try.func94 (by kernel_rfl) rfl #[.int .i64 a1, .int .i64 x6_1] rfl (by (try simp only [List.map_toArray, List.map_cons, List.map_nil]); first | done | rfl | (simp only [List.length_drop, List.length_take]; rfl)) ?_; (with_reducible refine (spec_l01Bit.calls a1 x6_1 t102 _ A4.out).mono ?_); rintro e w' ⟨rfl, ⟨nd, rfl⟩⟩; refine ⟨_, rfl, ?_⟩))
        go_roundg k1
        case measure => have := HK1.out; omega
        case rel => exact ⟨(wrap64 (x5_1 + t102)), (wrap64 (x6_1 + 1)), (by first | rfl | (simp; done) | (simp [*]; done)), (by first | rfl | (simp; done) | (simp [*]; done)), H', ⟨by have := HK1.out; omega⟩, by repeat (first | exact Drawn0.refl _ | apply Drawn0.step)⟩
      · rw [if_neg c3] at H
        have c3b0 : decide (x6_1 < 8) = false := decide_eq_false c3
        clear c3
        replace H := Option.bind_eq_some_iff.mp H
        obtain ⟨t103, A50, H⟩ := H
        replace H : ((spec_l06If.f (t103 == 1) 128).bind fun t104 => ((spec_l01Zero.f k1 a1 a0).bind fun t105 => ((spec_l06If.f (t105 == 0) 64).bind fun t106 => ((spec_l06If.f ((Int.tmod x5_1 2) == 0) 4).bind fun t107 => (some (Go.bits .or .i64 (Go.bits .or .i64 t104 t106) t107)))))) = some r := H
        have A5 := Aside0.mk A50
        clear A50
        replace H := Option.bind_eq_some_iff.mp H
        obtain ⟨t104, A60, H⟩ := H
        replace H : ((spec_l01Zero.f k1 a1 a0).bind fun t105 => ((spec_l06If.f (t105 == 0) 64).bind fun t106 => ((spec_l06If.f ((Int.tmod x5_1 2) == 0) 4).bind fun t107 => (some (Go.bits .or .i64 (Go.bits .or .i64 t104 t106) t107))))) = some r := H
        have A6 := Aside0.mk A60
        clear A60
        replace H := Option.bind_eq_some_iff.mp H
        obtain ⟨t105, A70, H⟩ := H
        replace H : ((spec_l06If.f (t105 == 0) 64).bind fun t106 => ((spec_l06If.f ((Int.tmod x5_1 2) == 0) 4).bind fun t107 => (some (Go.bits .or .i64 (Go.bits .or .i64 t104 t106) t107)))) = some r := H
        have A7 := Aside0.mk A70
        clear A70
        replace H := Option.bind_eq_some_iff.mp H
        obtain ⟨t106, A80, H⟩ := H
        replace H : ((spec_l06If.f ((Int.tmod x5_1 2) == 0) 4).bind fun t107 => (some (Go.bits .or .i64 (Go.bits .or .i64 t104 t106) t107))) = some r := H
        have A8 := Aside0.mk A80
        clear A80
        replace H := Option.bind_eq_some_iff.mp H
        obtain ⟨t107, A90, H⟩ := H
        replace H : (some (Go.bits .or .i64 (Go.bits .or .i64 t104 t106) t107)) = some r := H
        have A9 := Aside0.mk A90
        clear A90
        obtain rfl := Option.some.inj H
        go_wp2_with (first | ((with_reducible refine gate_callee (f := 94) rfl ?_); refine goesL_ (some 20) rfl rfl Try.func94 (by kernel_rfl) rfl #[.int .i64 a1, .int .i64 (wrap64 ((wrap64 (8 * a0)) - 1))] rfl (by (try simp only [List.map_toArray, List.map_cons, List.map_nil]); first | done | rfl | (simp only [List.length_drop, List.length_take]; rfl)) ?_; (with_reducible refine (spec_l01Bit.calls a1 (wrap64 ((wrap64 (8 * a0)) - 1)) t103 _ A5.out).mono ?_); rintro e w' ⟨rfl, ⟨nd, rfl⟩⟩; refine ⟨_, rfl, ?_⟩) | ((with_reducible refine gate_callee (f := 80) rfl ?_); refine goesL_ (some 22) rfl rfl Try.func80 (by kernel_rfl) rfl #[.bool (t103 == 1), .int .i64 128] rfl (by (try simp only [List.map_toArray, List.map_cons, List.map_nil]); first | done | rfl | (simp only [List.length_drop, List.length_take]; rfl)) ?_; (with_reducible refine (spec_l06If.calls (t103 == 1) 128 t104 _ A6.out).mono ?_); rintro e w' ⟨rfl, ⟨nd, rfl⟩⟩; refine ⟨_, rfl, ?_⟩) | ((with_reducible refine gate_callee (f := 61) rfl ?_); refine goesL_ (some 25) rfl rfl Try.func61 (by kernel_rfl) rfl #[.int .i64 a1, .int .i64 a0] rfl (by (try simp only [List.map_toArray, List.map_cons, List.map_nil]); first | done | rfl | (simp only [List.length_drop, List.length_take]; rfl)) ?_; (with_reducible refine (spec_l01Zero.calls k1 a1 a0 t105 _ A7.out).mono ?_); rintro e w' ⟨rfl, ⟨nd, rfl⟩⟩; refine ⟨_, rfl, ?_⟩) | ((with_reducible refine gate_callee (f := 80) rfl ?_); refine goesL_ (some 27) rfl rfl Try.func80 (by kernel_rfl) rfl #[.bool (t105 == 0), .int .i64 64] rfl (by (try simp only [List.map_toArray, List.map_cons, List.map_nil]); first | done | rfl | (simp only [List.length_drop, List.length_take]; rfl)) ?_; (with_reducible refine (spec_l06If.calls (t105 == 0) 64 t106 _ A8.out).mono ?_); rintro e w' ⟨rfl, ⟨nd, rfl⟩⟩; refine ⟨_, rfl, ?_⟩) | ((with_reducible refine gate_callee (f := 80) rfl ?_); refine goesL_ (some 32) rfl rfl Try.func80 (by kernel_rfl) rfl #[.bool ((Int.tmod x5_1 2) == 0), .int .i64 4] rfl (by (try simp only [List.map_toArray, List.map_cons, List.map_nil]); first | done | rfl | (simp only [List.length_drop, List.length_take]; rfl)) ?_; (with_reducible refine (spec_l06If.calls ((Int.tmod x5_1 2) == 0) 4 t107 _ A9.out).mono ?_); rintro e w' ⟨rfl, ⟨nd, rfl⟩⟩; refine ⟨_, rfl, ?_⟩))
        go_ret
        exact ⟨by first | rfl | (simp; done) | (simp [*]; done), by repeat (first | exact Drawn0.refl _ | apply Drawn0.step)⟩

/-! ### spec_l06Once: function 76 -/
mutual
def spec_l06Once.j0 : Nat → Int → Int → Int → Int → Int → Int → Option (Int × Int)
  | 0, _, _, _, _, _, _ => none
  | k + 1, x0, x1, x3, x13, x14, x15 => if x0 = 20 then (spec_l06Once.j1 k x1 x13 x14 x15 (Go.bits .and .i64 x3 196) false) else (spec_l06Once.j1 k x1 x13 x14 x15 (Go.bits .and .i64 x3 196) (x0 != 21))
def spec_l06Once.j1 : Nat → Int → Int → Int → Int → Int → Bool → Option (Int × Int)
  | 0, _, _, _, _, _, _ => none
  | k + 1, x1, x13, x14, x15, x16, x108 => if x108 = true then ((spec_l06Szp.f k x1 x13).bind fun t119 => ((spec_l06If.f (x14 == 1) 1).bind fun t120 => ((spec_l06If.f (x15 == 1) 2048).bind fun t121 => (some (x13, Go.bits .or .i64 (Go.bits .or .i64 t119 t120) t121))))) else ((spec_l06If.f (x14 == 1) 1).bind fun t122 => ((spec_l06If.f (x15 == 1) 2048).bind fun t123 => (some (x13, Go.bits .or .i64 (Go.bits .or .i64 x16 t122) t123))))
end
def spec_l06Once.f (k : Nat) (a0 : Int) (a1 : Int) (a2 : Int) (a3 : Int) : Option (Int × Int) := (spec_l01Bit.f a2 (wrap64 ((wrap64 (8 * a1)) - 1))).bind fun t108 => ((spec_l01Bit.f a2 0).bind fun t109 => (if a0 = 20 then ((spec_l01Zero.f k (wrap64 (IntKind.u64.wrap ((IntKind.u64.wrap (a2)) * 2))) a1).bind fun t110 => ((spec_l01Bit.f (Go.bits .or .i64 t110 t108) (wrap64 ((wrap64 (8 * a1)) - 1))).bind fun t111 => (spec_l06Once.j0 k a0 a1 a3 (Go.bits .or .i64 t110 t108) t108 (Go.bits .xor .i64 t111 t108)))) else (if a0 = 22 then ((spec_l01Zero.f k (wrap64 (IntKind.u64.wrap ((IntKind.u64.wrap (a2)) * 2))) a1).bind fun t112 => ((spec_l01Bit.f t112 (wrap64 ((wrap64 (8 * a1)) - 1))).bind fun t113 => (spec_l06Once.j0 k a0 a1 a3 t112 t108 (Go.bits .xor .i64 t113 t108)))) else (if a0 = 21 then ((spec_l01Zero.f k a2 a1).bind fun t114 => (if 0 ≤ (IntKind.u64.wrap (wrap64 ((wrap64 (8 * a1)) - 1))) then ((spec_l01Bit.f (wrap64 (Go.bits .or .u64 ((IntKind.u64.wrap (t114)) / 2) (shl .u64 (IntKind.u64.wrap (t109)) (IntKind.u64.wrap (wrap64 ((wrap64 (8 * a1)) - 1)))))) (wrap64 ((wrap64 (8 * a1)) - 1))).bind fun t115 => ((spec_l01Bit.f (wrap64 (Go.bits .or .u64 ((IntKind.u64.wrap (t114)) / 2) (shl .u64 (IntKind.u64.wrap (t109)) (IntKind.u64.wrap (wrap64 ((wrap64 (8 * a1)) - 1)))))) (wrap64 ((wrap64 ((wrap64 (8 * a1)) - 1)) - 1))).bind fun t116 => (spec_l06Once.j0 k a0 a1 a3 (wrap64 (Go.bits .or .u64 ((IntKind.u64.wrap (t114)) / 2) (shl .u64 (IntKind.u64.wrap (t109)) (IntKind.u64.wrap (wrap64 ((wrap64 (8 * a1)) - 1)))))) t109 (Go.bits .xor .i64 t115 t116)))) else (none))) else (if a0 = 23 then ((spec_l01Zero.f k a2 a1).bind fun t117 => (spec_l06Once.j0 k a0 a1 a3 (wrap64 ((IntKind.u64.wrap (t117)) / 2)) t109 t108)) else ((spec_l01Zero.f k a2 a1).bind fun t118 => (if 0 ≤ (IntKind.u64.wrap (wrap64 ((wrap64 (8 * a1)) - 1))) then (spec_l06Once.j0 k a0 a1 a3 (wrap64 (Go.bits .or .u64 ((IntKind.u64.wrap (t118)) / 2) (shl .u64 (IntKind.u64.wrap (t108)) (IntKind.u64.wrap (wrap64 ((wrap64 (8 * a1)) - 1)))))) t109 0) else (none))))))))
theorem spec_l06Once.mono_l : ∀ k, (∀ y0 y1 y2 y3 y4 y5, LeO (spec_l06Once.j0 k y0 y1 y2 y3 y4 y5) (spec_l06Once.j0 (k + 1) y0 y1 y2 y3 y4 y5)) ∧ (∀ y0 y1 y2 y3 y4 y5, LeO (spec_l06Once.j1 k y0 y1 y2 y3 y4 y5) (spec_l06Once.j1 (k + 1) y0 y1 y2 y3 y4 y5))
  | 0 => ⟨fun _ _ _ _ _ _ r h => by simp [spec_l06Once.j0] at h, fun _ _ _ _ _ _ r h => by simp [spec_l06Once.j1] at h⟩
  | k + 1 => by
    obtain ⟨ih0, ih1⟩ := spec_l06Once.mono_l k
    refine ⟨?_, ?_⟩
    · intro y0 y1 y2 y3 y4 y5
      unfold spec_l06Once.j0
      repeat' first
      | (with_reducible exact ih0 _ _ _ _ _ _)
      | (with_reducible exact ih1 _ _ _ _ _ _)
      | (with_reducible exact spec_l01Zero.mono _ _ _)
      | (with_reducible exact spec_l06Szp.mono _ _ _)
      | (with_reducible exact LeO.refl _)
      | (with_reducible exact LeO.none _)
      | (with_reducible refine LeO.ite ?_ ?_)
      | (with_reducible refine LeO.bind ?_ (fun _ => ?_))
      | exact ih0 _ _ _ _ _ _
      | exact ih1 _ _ _ _ _ _
      | exact spec_l01Zero.mono _ _ _
      | exact spec_l06Szp.mono _ _ _
      | exact LeO.none _
      | refine LeO.ite ?_ ?_
      | refine LeO.bind ?_ (fun _ => ?_)
    · intro y0 y1 y2 y3 y4 y5
      unfold spec_l06Once.j1
      repeat' first
      | (with_reducible exact ih0 _ _ _ _ _ _)
      | (with_reducible exact ih1 _ _ _ _ _ _)
      | (with_reducible exact spec_l01Zero.mono _ _ _)
      | (with_reducible exact spec_l06Szp.mono _ _ _)
      | (with_reducible exact LeO.refl _)
      | (with_reducible exact LeO.none _)
      | (with_reducible refine LeO.ite ?_ ?_)
      | (with_reducible refine LeO.bind ?_ (fun _ => ?_))
      | exact ih0 _ _ _ _ _ _
      | exact ih1 _ _ _ _ _ _
      | exact spec_l01Zero.mono _ _ _
      | exact spec_l06Szp.mono _ _ _
      | exact LeO.none _
      | refine LeO.ite ?_ ?_
      | refine LeO.bind ?_ (fun _ => ?_)
theorem spec_l06Once.mono : ∀ a0 a1 a2 a3 k, LeO (spec_l06Once.f k a0 a1 a2 a3) (spec_l06Once.f (k + 1) a0 a1 a2 a3) := by
  intro a0 a1 a2 a3 k
  obtain ⟨ih0, ih1⟩ := spec_l06Once.mono_l k
  unfold spec_l06Once.f
  repeat' first
      | (with_reducible exact ih0 _ _ _ _ _ _)
      | (with_reducible exact ih1 _ _ _ _ _ _)
      | (with_reducible exact spec_l01Zero.mono _ _ _)
      | (with_reducible exact spec_l06Szp.mono _ _ _)
      | (with_reducible exact LeO.refl _)
      | (with_reducible exact LeO.none _)
      | (with_reducible refine LeO.ite ?_ ?_)
      | (with_reducible refine LeO.bind ?_ (fun _ => ?_))
      | exact ih0 _ _ _ _ _ _
      | exact ih1 _ _ _ _ _ _
      | exact spec_l01Zero.mono _ _ _
      | exact spec_l06Szp.mono _ _ _
      | exact LeO.none _
      | refine LeO.ite ?_ ?_
      | refine LeO.bind ?_ (fun _ => ?_)
set_option maxHeartbeats 8000000 in
set_option maxRecDepth 100000 in
theorem spec_l06Once.calls (k : Nat) (a0 : Int) (a1 : Int) (a2 : Int) (a3 : Int) (r1 : Int) (r2 : Int) (w : World) (h : spec_l06Once.f k a0 a1 a2 a3 = some (r1, r2)) :
    Calls Try.prog 76 #[.int .i64 a0, .int .i64 a1, .int .i64 a2, .int .i64 a3] w fun e w' => e = .returned (.tuple #[.int .i64 r1, .int .i64 r2]) ∧ Drawn0 w w' := by
  have H : ((spec_l01Bit.f a2 (wrap64 ((wrap64 (8 * a1)) - 1))).bind fun t108 => ((spec_l01Bit.f a2 0).bind fun t109 => (if a0 = 20 then ((spec_l01Zero.f k (wrap64 (IntKind.u64.wrap ((IntKind.u64.wrap (a2)) * 2))) a1).bind fun t110 => ((spec_l01Bit.f (Go.bits .or .i64 t110 t108) (wrap64 ((wrap64 (8 * a1)) - 1))).bind fun t111 => (spec_l06Once.j0 k a0 a1 a3 (Go.bits .or .i64 t110 t108) t108 (Go.bits .xor .i64 t111 t108)))) else (if a0 = 22 then ((spec_l01Zero.f k (wrap64 (IntKind.u64.wrap ((IntKind.u64.wrap (a2)) * 2))) a1).bind fun t112 => ((spec_l01Bit.f t112 (wrap64 ((wrap64 (8 * a1)) - 1))).bind fun t113 => (spec_l06Once.j0 k a0 a1 a3 t112 t108 (Go.bits .xor .i64 t113 t108)))) else (if a0 = 21 then ((spec_l01Zero.f k a2 a1).bind fun t114 => (if 0 ≤ (IntKind.u64.wrap (wrap64 ((wrap64 (8 * a1)) - 1))) then ((spec_l01Bit.f (wrap64 (Go.bits .or .u64 ((IntKind.u64.wrap (t114)) / 2) (shl .u64 (IntKind.u64.wrap (t109)) (IntKind.u64.wrap (wrap64 ((wrap64 (8 * a1)) - 1)))))) (wrap64 ((wrap64 (8 * a1)) - 1))).bind fun t115 => ((spec_l01Bit.f (wrap64 (Go.bits .or .u64 ((IntKind.u64.wrap (t114)) / 2) (shl .u64 (IntKind.u64.wrap (t109)) (IntKind.u64.wrap (wrap64 ((wrap64 (8 * a1)) - 1)))))) (wrap64 ((wrap64 ((wrap64 (8 * a1)) - 1)) - 1))).bind fun t116 => (spec_l06Once.j0 k a0 a1 a3 (wrap64 (Go.bits .or .u64 ((IntKind.u64.wrap (t114)) / 2) (shl .u64 (IntKind.u64.wrap (t109)) (IntKind.u64.wrap (wrap64 ((wrap64 (8 * a1)) - 1)))))) t109 (Go.bits .xor .i64 t115 t116)))) else (none))) else (if a0 = 23 then ((spec_l01Zero.f k a2 a1).bind fun t117 => (spec_l06Once.j0 k a0 a1 a3 (wrap64 ((IntKind.u64.wrap (t117)) / 2)) t109 t108)) else ((spec_l01Zero.f k a2 a1).bind fun t118 => (if 0 ≤ (IntKind.u64.wrap (wrap64 ((wrap64 (8 * a1)) - 1))) then (spec_l06Once.j0 k a0 a1 a3 (wrap64 (Go.bits .or .u64 ((IntKind.u64.wrap (t118)) / 2) (shl .u64 (IntKind.u64.wrap (t108)) (IntKind.u64.wrap (wrap64 ((wrap64 (8 * a1)) - 1)))))) t109 0) else (none))))))))) = some (r1, r2) := h
  clear h
  replace H := Option.bind_eq_some_iff.mp H
  obtain ⟨t108, A50, H⟩ := H
  replace H : ((spec_l01Bit.f a2 0).bind fun t109 => (if a0 = 20 then ((spec_l01Zero.f k (wrap64 (IntKind.u64.wrap ((IntKind.u64.wrap (a2)) * 2))) a1).bind fun t110 => ((spec_l01Bit.f (Go.bits .or .i64 t110 t108) (wrap64 ((wrap64 (8 * a1)) - 1))).bind fun t111 => (spec_l06Once.j0 k a0 a1 a3 (Go.bits .or .i64 t110 t108) t108 (Go.bits .xor .i64 t111 t108)))) else (if a0 = 22 then ((spec_l01Zero.f k (wrap64 (IntKind.u64.wrap ((IntKind.u64.wrap (a2)) * 2))) a1).bind fun t112 => ((spec_l01Bit.f t112 (wrap64 ((wrap64 (8 * a1)) - 1))).bind fun t113 => (spec_l06Once.j0 k a0 a1 a3 t112 t108 (Go.bits .xor .i64 t113 t108)))) else (if a0 = 21 then ((spec_l01Zero.f k a2 a1).bind fun t114 => (if 0 ≤ (IntKind.u64.wrap (wrap64 ((wrap64 (8 * a1)) - 1))) then ((spec_l01Bit.f (wrap64 (Go.bits .or .u64 ((IntKind.u64.wrap (t114)) / 2) (shl .u64 (IntKind.u64.wrap (t109)) (IntKind.u64.wrap (wrap64 ((wrap64 (8 * a1)) - 1)))))) (wrap64 ((wrap64 (8 * a1)) - 1))).bind fun t115 => ((spec_l01Bit.f (wrap64 (Go.bits .or .u64 ((IntKind.u64.wrap (t114)) / 2) (shl .u64 (IntKind.u64.wrap (t109)) (IntKind.u64.wrap (wrap64 ((wrap64 (8 * a1)) - 1)))))) (wrap64 ((wrap64 ((wrap64 (8 * a1)) - 1)) - 1))).bind fun t116 => (spec_l06Once.j0 k a0 a1 a3 (wrap64 (Go.bits .or .u64 ((IntKind.u64.wrap (t114)) / 2) (shl .u64 (IntKind.u64.wrap (t109)) (IntKind.u64.wrap (wrap64 ((wrap64 (8 * a1)) - 1)))))) t109 (Go.bits .xor .i64 t115 t116)))) else (none))) else (if a0 = 23 then ((spec_l01Zero.f k a2 a1).bind fun t117 => (spec_l06Once.j0 k a0 a1 a3 (wrap64 ((IntKind.u64.wrap (t117)) / 2)) t109 t108)) else ((spec_l01Zero.f k a2 a1).bind fun t118 => (if 0 ≤ (IntKind.u64.wrap (wrap64 ((wrap64 (8 * a1)) - 1))) then (spec_l06Once.j0 k a0 a1 a3 (wrap64 (Go.bits .or .u64 ((IntKind.u64.wrap (t118)) / 2) (shl .u64 (IntKind.u64.wrap (t108)) (IntKind.u64.wrap (wrap64 ((wrap64 (8 * a1)) - 1)))))) t109 0) else (none)))))))) = some (r1, r2) := H
  have A5 := Aside0.mk A50
  clear A50
  replace H := Option.bind_eq_some_iff.mp H
  obtain ⟨t109, A60, H⟩ := H
  replace H : (if a0 = 20 then ((spec_l01Zero.f k (wrap64 (IntKind.u64.wrap ((IntKind.u64.wrap (a2)) * 2))) a1).bind fun t110 => ((spec_l01Bit.f (Go.bits .or .i64 t110 t108) (wrap64 ((wrap64 (8 * a1)) - 1))).bind fun t111 => (spec_l06Once.j0 k a0 a1 a3 (Go.bits .or .i64 t110 t108) t108 (Go.bits .xor .i64 t111 t108)))) else (if a0 = 22 then ((spec_l01Zero.f k (wrap64 (IntKind.u64.wrap ((IntKind.u64.wrap (a2)) * 2))) a1).bind fun t112 => ((spec_l01Bit.f t112 (wrap64 ((wrap64 (8 * a1)) - 1))).bind fun t113 => (spec_l06Once.j0 k a0 a1 a3 t112 t108 (Go.bits .xor .i64 t113 t108)))) else (if a0 = 21 then ((spec_l01Zero.f k a2 a1).bind fun t114 => (if 0 ≤ (IntKind.u64.wrap (wrap64 ((wrap64 (8 * a1)) - 1))) then ((spec_l01Bit.f (wrap64 (Go.bits .or .u64 ((IntKind.u64.wrap (t114)) / 2) (shl .u64 (IntKind.u64.wrap (t109)) (IntKind.u64.wrap (wrap64 ((wrap64 (8 * a1)) - 1)))))) (wrap64 ((wrap64 (8 * a1)) - 1))).bind fun t115 => ((spec_l01Bit.f (wrap64 (Go.bits .or .u64 ((IntKind.u64.wrap (t114)) / 2) (shl .u64 (IntKind.u64.wrap (t109)) (IntKind.u64.wrap (wrap64 ((wrap64 (8 * a1)) - 1)))))) (wrap64 ((wrap64 ((wrap64 (8 * a1)) - 1)) - 1))).bind fun t116 => (spec_l06Once.j0 k a0 a1 a3 (wrap64 (Go.bits .or .u64 ((IntKind.u64.wrap (t114)) / 2) (shl .u64 (IntKind.u64.wrap (t109)) (IntKind.u64.wrap (wrap64 ((wrap64 (8 * a1)) - 1)))))) t109 (Go.bits .xor .i64 t115 t116)))) else (none))) else (if a0 = 23 then ((spec_l01Zero.f k a2 a1).bind fun t117 => (spec_l06Once.j0 k a0 a1 a3 (wrap64 ((IntKind.u64.wrap (t117)) / 2)) t109 t108)) else ((spec_l01Zero.f k a2 a1).bind fun t118 => (if 0 ≤ (IntKind.u64.wrap (wrap64 ((wrap64 (8 * a1)) - 1))) then (spec_l06Once.j0 k a0 a1 a3 (wrap64 (Go.bits .or .u64 ((IntKind.u64.wrap (t118)) / 2) (shl .u64 (IntKind.u64.wrap (t108)) (IntKind.u64.wrap (wrap64 ((wrap64 (8 * a1)) - 1)))))) t109 0) else (none))))))) = some (r1, r2) := H
  have A6 := Aside0.mk A60
  clear A60
  have HC7 := Aside0.mk H
  clear H
  go_enter Try.func76, Try.ntmps76
  go_upto_block 0 with (first | ((with_reducible refine gate_callee (f := 94) rfl ?_); refine goesL_ (some 22) rfl rfl Try.func94 (by kernel_rfl) rfl #[.int .i64 a2, .int .i64 (wrap64 ((wrap64 (8 * a1)) - 1))] rfl (by (try simp only [List.map_toArray, List.map_cons, List.map_nil]); first | done | rfl | (simp only [List.length_drop, List.length_take]; rfl)) ?_; (with_reducible refine (spec_l01Bit.calls a2 (wrap64 ((wrap64 (8 * a1)) - 1)) t108 _ A5.out).mono ?_); rintro e w' ⟨rfl, ⟨nd, rfl⟩⟩; refine ⟨_, rfl, ?_⟩) | ((with_reducible refine gate_callee (f := 94) rfl ?_); refine goesL_ (some 24) rfl rfl Try.func94 (by kernel_rfl) rfl #[.int .i64 a2, .int .i64 0] rfl (by (try simp only [List.map_toArray, List.map_cons, List.map_nil]); first | done | rfl | (simp only [List.length_drop, List.length_take]; rfl)) ?_; (with_reducible refine (spec_l01Bit.calls a2 0 t109 _ A6.out).mono ?_); rintro e w' ⟨rfl, ⟨nd, rfl⟩⟩; refine ⟨_, rfl, ?_⟩))
  (try simp only [Act.put, List.setIfInBounds_toArray, List.set_cons_zero, List.set_cons_succ])
  go_cut [13, 14, 15] (fun v13 v14 v15 wc => ∃ (kq : Nat) (x13_6 : Int) (x14_6 : Int) (x15_6 : Int), v13 = .int .i64 x13_6 ∧ v14 = .int .i64 x14_6 ∧ v15 = .int .i64 x15_6 ∧ Aside0 (spec_l06Once.j0 kq a0 a1 a3 x13_6 x14_6 x15_6 = some (r1, r2)) ∧ Aside0 (kq ≤ k) ∧ Drawn0 w wc)
  case first =>
    have H := HC7.out
    clear HC7
    by_cases c8 : a0 = 20
    · rw [if_pos c8] at H
      have c8b0 : (a0 == 20) = true := beq_iff_eq.mpr c8
      have c8b1 : (a0 != 20) = false := bne_eq_false_iff_eq.mpr c8
      clear c8
      (first | rw [c8b0] | (simp only [i64_w, i32_w]; rw [c8b0]) | skip)
      replace H := Option.bind_eq_some_iff.mp H
      obtain ⟨t110, A90, H⟩ := H
      replace H : ((spec_l01Bit.f (Go.bits .or .i64 t110 t108) (wrap64 ((wrap64 (8 * a1)) - 1))).bind fun t111 => (spec_l06Once.j0 k a0 a1 a3 (Go.bits .or .i64 t110 t108) t108 (Go.bits .xor .i64 t111 t108))) = some (r1, r2) := H
      have A9 := Aside0.mk A90
      clear A90
      replace H := Option.bind_eq_some_iff.mp H
      obtain ⟨t111, A100, H⟩ := H
      replace H : (spec_l06Once.j0 k a0 a1 a3 (Go.bits .or .i64 t110 t108) t108 (Go.bits .xor .i64 t111 t108)) = some (r1, r2) := H
      have A10 := Aside0.mk A100
      clear A100
      have H' := Aside0.mk H
      clear H
      go_wp2_with (first | ((with_reducible refine gate_callee (f := 61) rfl ?_); refine goesL_ (some 47) rfl rfl Try.func61 (by kernel_rfl) rfl #[.int .i64 (wrap64 (IntKind.u64.wrap ((IntKind.u64.wrap (a2)) * 2))), .int .i64 a1] rfl (by (try simp only [List.map_toArray, List.map_cons, List.map_nil]); first | done | rfl | (simp only [List.length_drop, List.length_take]; rfl)) ?_; (with_reducible refine (spec_l01Zero.calls k (wrap64 (IntKind.u64.wrap ((IntKind.u64.wrap (a2)) * 2))) a1 t110 _ A9.out).mono ?_); rintro e w' ⟨rfl, ⟨nd, rfl⟩⟩; refine ⟨_, rfl, ?_⟩) | ((with_reducible refine gate_callee (f := 94) rfl ?_); refine goesL_ (some 52) rfl rfl Try.func94 (by kernel_rfl) rfl #[.int .i64 (Go.bits .or .i64 t110 t108), .int .i64 (wrap64 ((wrap64 (8 * a1)) - 1))] rfl (by (try simp only [List.map_toArray, List.map_cons, List.map_nil]); first | done | rfl | (simp only [List.length_drop, List.length_take]; rfl)) ?_; (with_reducible refine (spec_l01Bit.calls (Go.bits .or .i64 t110 t108) (wrap64 ((wrap64 (8 * a1)) - 1)) t111 _ A10.out).mono ?_); rintro e w' ⟨rfl, ⟨nd, rfl⟩⟩; refine ⟨_, rfl, ?_⟩))
      go_meet
      case rel => (try rw [c8b0]); (try rw [c8b1]); exact ⟨_, (Go.bits .or .i64 t110 t108), (t108), (Go.bits .xor .i64 t111 t108), (by first | rfl | (simp; done) | (simp [*]; done)), (by first | rfl | (simp; done) | (simp [*]; done)), (by first | rfl | (simp; done) | (simp [*]; done)), H', ⟨by first | omega | exact Nat.le_refl _⟩, by repeat (first | exact Drawn0.refl _ | apply Drawn0.step)⟩
    · rw [if_neg c8] at H
      have c8b0 : (a0 == 20) = false := beq_eq_false_iff_ne.mpr c8
      have c8b1 : (a0 != 20) = true := bne_iff_ne.mpr c8
      (first | rw [c8b0] | (simp only [i64_w, i32_w]; rw [c8b0]) | skip)
      by_cases c11 : a0 = 22
      · rw [if_pos c11] at H
        have c11b0 : (a0 == 22) = true := beq_iff_eq.mpr c11
        have c11b1 : (a0 != 22) = false := bne_eq_false_iff_eq.mpr c11
        clear c11
        replace H := Option.bind_eq_some_iff.mp H
        obtain ⟨t112, A120, H⟩ := H
        replace H : ((spec_l01Bit.f t112 (wrap64 ((wrap64 (8 * a1)) - 1))).bind fun t113 => (spec_l06Once.j0 k a0 a1 a3 t112 t108 (Go.bits .xor .i64 t113 t108))) = some (r1, r2) := H
        have A12 := Aside0.mk A120
        clear A120
        replace H := Option.bind_eq_some_iff.mp H
        obtain ⟨t113, A130, H⟩ := H
        replace H : (spec_l06Once.j0 k a0 a1 a3 t112 t108 (Go.bits .xor .i64 t113 t108)) = some (r1, r2) := H
        have A13 := Aside0.mk A130
        clear A130
        have H' := Aside0.mk H
        clear H
        go_wp2_with (first | ((with_reducible refine gate_callee (f := 61) rfl ?_); refine goesL_ (some 62) rfl rfl Try.func61 (by kernel_rfl) rfl #[.int .i64 (wrap64 (IntKind.u64.wrap ((IntKind.u64.wrap (a2)) * 2))), .int .i64 a1] rfl (by (try simp only [List.map_toArray, List.map_cons, List.map_nil]); first | done | rfl | (simp only [List.length_drop, List.length_take]; rfl)) ?_; (with_reducible refine (spec_l01Zero.calls k (wrap64 (IntKind.u64.wrap ((IntKind.u64.wrap (a2)) * 2))) a1 t112 _ A12.out).mono ?_); rintro e w' ⟨rfl, ⟨nd, rfl⟩⟩; refine ⟨_, rfl, ?_⟩) | ((with_reducible refine gate_callee (f := 94) rfl ?_); refine goesL_ (some 65) rfl rfl Try.func94 (by kernel_rfl) rfl #[.int .i64 t112, .int .i64 (wrap64 ((wrap64 (8 * a1)) - 1))] rfl (by (try simp only [List.map_toArray, List.map_cons, List.map_nil]); first | done | rfl | (simp only [List.length_drop, List.length_take]; rfl)) ?_; (with_reducible refine (spec_l01Bit.calls t112 (wrap64 ((wrap64 (8 * a1)) - 1)) t113 _ A13.out).mono ?_); rintro e w' ⟨rfl, ⟨nd, rfl⟩⟩; refine ⟨_, rfl, ?_⟩))
        go_meet
        case rel => (try rw [c8b0]); (try rw [c8b1]); (try rw [c11b0]); (try rw [c11b1]); exact ⟨_, (t112), (t108), (Go.bits .xor .i64 t113 t108), (by first | rfl | (simp; done) | (simp [*]; done)), (by first | rfl | (simp; done) | (simp [*]; done)), (by first | rfl | (simp; done) | (simp [*]; done)), H', ⟨by first | omega | exact Nat.le_refl _⟩, by repeat (first | exact Drawn0.refl _ | apply Drawn0.step)⟩
      · rw [if_neg c11] at H
        have c11b0 : (a0 == 22) = false := beq_eq_false_iff_ne.mpr c11
        have c11b1 : (a0 != 22) = true := bne_iff_ne.mpr c11
        by_cases c14 : a0 = 21
        · rw [if_pos c14] at H
          have c14b0 : (a0 == 21) = true := beq_iff_eq.mpr c14
          have c14b1 : (a0 != 21) = false := bne_eq_false_iff_eq.mpr c14
          clear c14
          replace H := Option.bind_eq_some_iff.mp H
          obtain ⟨t114, A150, H⟩ := H
          replace H : (if 0 ≤ (IntKind.u64.wrap (wrap64 ((wrap64 (8 * a1)) - 1))) then ((spec_l01Bit.f (wrap64 (Go.bits .or .u64 ((IntKind.u64.wrap (t114)) / 2) (shl .u64 (IntKind.u64.wrap (t109)) (IntKind.u64.wrap (wrap64 ((wrap64 (8 * a1)) - 1)))))) (wrap64 ((wrap64 (8 * a1)) - 1))).bind fun t115 => ((spec_l01Bit.f (wrap64 (Go.bits .or .u64 ((IntKind.u64.wrap (t114)) / 2) (shl .u64 (IntKind.u64.wrap (t109)) (IntKind.u64.wrap (wrap64 ((wrap64 (8 * a1)) - 1)))))) (wrap64 ((wrap64 ((wrap64 (8 * a1)) - 1)) - 1))).bind fun t116 => (spec_l06Once.j0 k a0 a1 a3 (wrap64 (Go.bits .or .u64 ((IntKind.u64.wrap (t114)) / 2) (shl .u64 (IntKind.u64.wrap (t109)) (IntKind.u64.wrap (wrap64 ((wrap64 (8 * a1)) - 1)))))) t109 (Go.bits .xor .i64 t115 t116)))) else (none)) = some (r1, r2) := H
          have A15 := Aside0.mk A150
          clear A150
          obtain ⟨ji16, hji16⟩ : ∃ j_ : Int, (IntKind.u64.wrap (wrap64 ((wrap64 (8 * a1)) - 1))) = j_ := ⟨_, rfl⟩
          replace H : (if 0 ≤ (ji16) then ((spec_l01Bit.f (wrap64 (Go.bits .or .u64 ((IntKind.u64.wrap (t114)) / 2) (shl .u64 (IntKind.u64.wrap (t109)) (ji16)))) (wrap64 ((wrap64 (8 * a1)) - 1))).bind fun t115 => ((spec_l01Bit.f (wrap64 (Go.bits .or .u64 ((IntKind.u64.wrap (t114)) / 2) (shl .u64 (IntKind.u64.wrap (t109)) (ji16)))) (wrap64 ((wrap64 ((wrap64 (8 * a1)) - 1)) - 1))).bind fun t116 => (spec_l06Once.j0 k a0 a1 a3 (wrap64 (Go.bits .or .u64 ((IntKind.u64.wrap (t114)) / 2) (shl .u64 (IntKind.u64.wrap (t109)) (ji16)))) t109 (Go.bits .xor .i64 t115 t116)))) else (none)) = some (r1, r2) := by first | (rw [hji16] at H; exact H) | (simp only [hji16] at H ⊢; exact H)
          (try rw [hji16] at A15)
          by_cases c17 : 0 ≤ (ji16)
          · rw [if_pos c17] at H
            have c17b0 := eq_true c17
            have c17b1 : decide (0 ≤ (ji16)) = true := decide_eq_true c17
            clear c17
            obtain ⟨ji18, hji18⟩ : ∃ j_ : Int, (shl .u64 (IntKind.u64.wrap (t109)) (ji16)) = j_ := ⟨_, rfl⟩
            replace H : ((spec_l01Bit.f (wrap64 (Go.bits .or .u64 ((IntKind.u64.wrap (t114)) / 2) (ji18))) (wrap64 ((wrap64 (8 * a1)) - 1))).bind fun t115 => ((spec_l01Bit.f (wrap64 (Go.bits .or .u64 ((IntKind.u64.wrap (t114)) / 2) (ji18))) (wrap64 ((wrap64 ((wrap64 (8 * a1)) - 1)) - 1))).bind fun t116 => (spec_l06Once.j0 k a0 a1 a3 (wrap64 (Go.bits .or .u64 ((IntKind.u64.wrap (t114)) / 2) (ji18))) t109 (Go.bits .xor .i64 t115 t116)))) = some (r1, r2) := by first | (rw [hji18] at H; exact H) | (simp only [hji18] at H ⊢; exact H)
            (try rw [hji18] at A15)
            have hji18_ : (IntKind.u64.wrap ((IntKind.u64.wrap (t109)) * 2 ^ min (ji16).toNat 64)) = ji18 := hji18
            have hji18z : (ji16) ≤ 64 → (IntKind.u64.wrap ((IntKind.u64.wrap (t109)) * 2 ^ (ji16).toNat)) = ji18 := shl_small hji18
            replace H := Option.bind_eq_some_iff.mp H
            obtain ⟨t115, A190, H⟩ := H
            replace H : ((spec_l01Bit.f (wrap64 (Go.bits .or .u64 ((IntKind.u64.wrap (t114)) / 2) (ji18))) (wrap64 ((wrap64 ((wrap64 (8 * a1)) - 1)) - 1))).bind fun t116 => (spec_l06Once.j0 k a0 a1 a3 (wrap64 (Go.bits .or .u64 ((IntKind.u64.wrap (t114)) / 2) (ji18))) t109 (Go.bits .xor .i64 t115 t116))) = some (r1, r2) := H
            have A19 := Aside0.mk A190
            clear A190
            replace H := Option.bind_eq_some_iff.mp H
            obtain ⟨t116, A200, H⟩ := H
            replace H : (spec_l06Once.j0 k a0 a1 a3 (wrap64 (Go.bits .or .u64 ((IntKind.u64.wrap (t114)) / 2) (ji18))) t109 (Go.bits .xor .i64 t115 t116)) = some (r1, r2) := H
            have A20 := Aside0.mk A200
            clear A200
            have H' := Aside0.mk H
            clear H
            go_wp2_with (first | ((with_reducible refine gate_callee (f := 61) rfl ?_); refine goesL_ (some 72) rfl rfl Try.func61 (by kernel_rfl) rfl #[.int .i64 a2, .int .i64 a1] rfl (by (try simp only [List.map_toArray, List.map_cons, List.map_nil]); first | done | rfl | (simp only [List.length_drop, List.length_take]; rfl)) ?_; (with_reducible refine (spec_l01Zero.calls k a2 a1 t114 _ A15.out).mono ?_); rintro e w' ⟨rfl, ⟨nd, rfl⟩⟩; refine ⟨_, rfl, ?_⟩) | ((with_reducible refine gate_callee (f := 94) rfl ?_); refine goesL_ (some 85) rfl rfl Try.func94 (by kernel_rfl) rfl #[.int .i64 (wrap64 (Go.bits .or .u64 ((IntKind.u64.wrap (t114)) / 2) (ji18))), .int .i64 (wrap64 ((wrap64 (8 * a1)) - 1))] rfl (by (try simp only [List.map_toArray, List.map_cons, List.map_nil]); first | done | (simp only [hji18]; rfl) | rfl | (simp only [List.length_drop, List.length_take]; rfl)) ?_; (with_reducible refine (spec_l01Bit.calls (wrap64 (Go.bits .or .u64 ((IntKind.u64.wrap (t114)) / 2) (ji18))) (wrap64 ((wrap64 (8 * a1)) - 1)) t115 _ A19.out).mono ?_); rintro e w' ⟨rfl, ⟨nd, rfl⟩⟩; refine ⟨_, rfl, ?_⟩) | ((with_reducible refine gate_callee (f := 94) rfl ?_); refine goesL_ (some 89) rfl rfl Try.func94 (by kernel_rfl) rfl #[.int .i64 (wrap64 (Go.bits .or .u64 ((IntKind.u64.wrap (t114)) / 2) (ji18))), .int .i64 (wrap64 ((wrap64 ((wrap64 (8 * a1)) - 1)) - 1))] rfl (by (try simp only [List.map_toArray, List.map_cons, List.map_nil]); first | done | (simp only [hji18]; rfl) | rfl | (simp only [List.length_drop, List.length_take]; rfl)) ?_; (with_reducible refine (spec_l01Bit.calls (wrap64 (Go.bits .or .u64 ((IntKind.u64.wrap (t114)) / 2) (ji18))) (wrap64 ((wrap64 ((wrap64 (8 * a1)) - 1)) - 1)) t116 _ A20.out).mono ?_); rintro e w' ⟨rfl, ⟨nd, rfl⟩⟩; refine ⟨_, rfl, ?_⟩))
            go_meet
            case rel => (try rw [c8b0]); (try rw [c8b1]); (try rw [c11b0]); (try rw [c11b1]); (try rw [c14b0]); (try rw [c14b1]); exact ⟨_, (wrap64 (Go.bits .or .u64 ((IntKind.u64.wrap (t114)) / 2) (ji18))), (t109), (Go.bits .xor .i64 t115 t116), (by first | rfl | (simp; done) | (simp only [← hji18] <;> (first | rfl | simp)) | (simp [*]; done)), (by first | rfl | (simp; done) | (simp [*]; done)), (by first | rfl | (simp; done) | (simp [*]; done)), H', ⟨by first | omega | exact Nat.le_refl _⟩, by repeat (first | exact Drawn0.refl _ | apply Drawn0.step)⟩
          · rw [if_neg c17] at H
            exact absurd H (by simp)
        · rw [if_neg c14] at H
          have c14b0 : (a0 == 21) = false := beq_eq_false_iff_ne.mpr c14
          have c14b1 : (a0 != 21) = true := bne_iff_ne.mpr c14
          by_cases c21 : a0 = 23
          · rw [if_pos c21] at H
            have c21b0 : (a0 == 23) = true := beq_iff_eq.mpr c21
            have c21b1 : (a0 != 23) = false := bne_eq_false_iff_eq.mpr c21
            clear c21
            replace H := Option.bind_eq_some_iff.mp H
            obtain ⟨t117, A220, H⟩ := H
            replace H : (spec_l06Once.j0 k a0 a1 a3 (wrap64 ((IntKind.u64.wrap (t117)) / 2)) t109 t108) = some (r1, r2) := H
            have A22 := Aside0.mk A220
            clear A220
            have H' := Aside0.mk H
            clear H
            go_wp2_with (first | ((with_reducible refine gate_callee (f := 61) rfl ?_); refine goesL_ (some 95) rfl rfl Try.func61 (by kernel_rfl) rfl #[.int .i64 a2, .int .i64 a1] rfl (by (try simp only [List.map_toArray, List.map_cons, List.map_nil]); first | done | rfl | (simp only [List.length_drop, List.length_take]; rfl)) ?_; (with_reducible refine (spec_l01Zero.calls k a2 a1 t117 _ A22.out).mono ?_); rintro e w' ⟨rfl, ⟨nd, rfl⟩⟩; refine ⟨_, rfl, ?_⟩))
            go_meet
            case rel => (try rw [c8b0]); (try rw [c8b1]); (try rw [c11b0]); (try rw [c11b1]); (try rw [c14b0]); (try rw [c14b1]); (try rw [c21b0]); (try rw [c21b1]); exact ⟨_, (wrap64 ((IntKind.u64.wrap (t117)) / 2)), (t109), (t108), (by first | rfl | (simp; done) | (simp [*]; done)), (by first | rfl | (simp; done) | (simp [*]; done)), (by first | rfl | (simp; done) | (simp [*]; done)), H', ⟨by first | omega | exact Nat.le_refl _⟩, by repeat (first | exact Drawn0.refl _ | apply Drawn0.step)⟩
          · rw [if_neg c21] at H
            have c21b0 : (a0 == 23) = false := beq_eq_false_iff_ne.mpr c21
            have c21b1 : (a0 != 23) = true := bne_iff_ne.mpr c21
            replace H := Option.bind_eq_some_iff.mp H
            obtain ⟨t118, A230, H⟩ := H
            replace H : (if 0 ≤ (IntKind.u64.wrap (wrap64 ((wrap64 (8 * a1)) - 1))) then (spec_l06Once.j0 k a0 a1 a3 (wrap64 (Go.bits .or .u64 ((IntKind.u64.wrap (t118)) / 2) (shl .u64 (IntKind.u64.wrap (t108)) (IntKind.u64.wrap (wrap64 ((wrap64 (8 * a1)) - 1)))))) t109 0) else (none)) = some (r1, r2) := H
            have A23 := Aside0.mk A230
            clear A230
            obtain ⟨ji24, hji24⟩ : ∃ j_ : Int, (IntKind.u64.wrap (wrap64 ((wrap64 (8 * a1)) - 1))) = j_ := ⟨_, rfl⟩
            replace H : (if 0 ≤ (ji24) then (spec_l06Once.j0 k a0 a1 a3 (wrap64 (Go.bits .or .u64 ((IntKind.u64.wrap (t118)) / 2) (shl .u64 (IntKind.u64.wrap (t108)) (ji24)))) t109 0) else (none)) = some (r1, r2) := by first | (rw [hji24] at H; exact H) | (simp only [hji24] at H ⊢; exact H)
            (try rw [hji24] at A23)
            by_cases c25 : 0 ≤ (ji24)
            · rw [if_pos c25] at H
              have c25b0 := eq_true c25
              have c25b1 : decide (0 ≤ (ji24)) = true := decide_eq_true c25
              clear c25
              obtain ⟨ji26, hji26⟩ : ∃ j_ : Int, (shl .u64 (IntKind.u64.wrap (t108)) (ji24)) = j_ := ⟨_, rfl⟩
              replace H : (spec_l06Once.j0 k a0 a1 a3 (wrap64 (Go.bits .or .u64 ((IntKind.u64.wrap (t118)) / 2) (ji26))) t109 0) = some (r1, r2) := by first | (rw [hji26] at H; exact H) | (simp only [hji26] at H ⊢; exact H)
              (try rw [hji26] at A23)
              have hji26_ : (IntKind.u64.wrap ((IntKind.u64.wrap (t108)) * 2 ^ min (ji24).toNat 64)) = ji26 := hji26
              have hji26z : (ji24) ≤ 64 → (IntKind.u64.wrap ((IntKind.u64.wrap (t108)) * 2 ^ (ji24).toNat)) = ji26 := shl_small hji26
              have H' := Aside0.mk H
              clear H
              go_wp2_with (first | ((with_reducible refine gate_callee (f := 61) rfl ?_); refine goesL_ (some 29) rfl rfl Try.func61 (by kernel_rfl) rfl #[.int .i64 a2, .int .i64 a1] rfl (by (try simp only [List.map_toArray, List.map_cons, List.map_nil]); first | done | rfl | (simp only [List.length_drop, List.length_take]; rfl)) ?_; (with_reducible refine (spec_l01Zero.calls k a2 a1 t118 _ A23.out).mono ?_); rintro e w' ⟨rfl, ⟨nd, rfl⟩⟩; refine ⟨_, rfl, ?_⟩))
              go_meet
              case rel => (try rw [c8b0]); (try rw [c8b1]); (try rw [c11b0]); (try rw [c11b1]); (try rw [c14b0]); (try rw [c14b1]); (try rw [c21b0]); (try rw [c21b1]); exact ⟨_, (wrap64 (Go.bits .or .u64 ((IntKind.u64.wrap (t118)) / 2) (ji26))), (t109), (0), (by first | rfl | (simp; done) | (simp only [← hji26] <;> (first | rfl | simp)) | (simp [*]; done)), (by first | rfl | (simp; done) | (simp [*]; done)), (by first | rfl | (simp; done) | (simp [*]; done)), H', ⟨by first | omega | exact Nat.le_refl _⟩, by repeat (first | exact Drawn0.refl _ | apply Drawn0.step)⟩
            · rw [if_neg c25] at H
              exact absurd H (by simp)
  case rest =>
    clear HC7
    try clear c1
    try clear c2
    try clear p2
    try clear c6
    try clear p6
    try clear c7
    try clear c8
    try clear c8b0
    try clear c8b1
    try clear c9
    try clear c11
    try clear c11b0
    try clear c11b1
    try clear c14
    try clear c14b0
    try clear c14b1
    try clear c17
    try clear c17b0
    try clear c17b1
    try clear c21
    try clear c21b0
    try clear c21b1
    try clear c25
    try clear c25b0
    try clear c25b1
    obtain ⟨kq, x13_6, x14_6, x15_6, rfl, rfl, rfl, HA, HJ6, ⟨mc6, rfl⟩⟩ := hcut
    cases kq with
    | zero => exact absurd HA.out (by simp [spec_l06Once.j0])
    | succ kj6 =>
      have H := HA.out
      clear HA
      simp only [spec_l06Once.j0] at H
      have HC27 := Aside0.mk H
      clear H
      go_upto_region 25 with (fail)
      go_cut [108] (fun v108 wc => ∃ (kq : Nat) (x108_26 : Bool), v108 = .bool x108_26 ∧ Aside0 (spec_l06Once.j1 kq a1 x13_6 x14_6 x15_6 (Go.bits .and .i64 a3 196) x108_26 = some (r1, r2)) ∧ Aside0 (kq ≤ kj6) ∧ Drawn0 w wc)
      case first =>
        have H := HC27.out
        clear HC27
        by_cases c28 : a0 = 20
        · rw [if_pos c28] at H
          have c28b0 : (a0 == 20) = true := beq_iff_eq.mpr c28
          have c28b1 : (a0 != 20) = false := bne_eq_false_iff_eq.mpr c28
          clear c28
          (first | rw [c28b0] | (simp only [i64_w, i32_w]; rw [c28b0]) | skip)
          have H' := Aside0.mk H
          clear H
          go_wp2
          go_meet
          case rel => (try rw [c8b0]); (try rw [c8b1]); (try rw [c11b0]); (try rw [c11b1]); (try rw [c14b0]); (try rw [c14b1]); (try rw [c21b0]); (try rw [c21b1]); (try rw [c28b0]); (try rw [c28b1]); exact ⟨_, (false), (by first | rfl | (simp; done) | (simp [*]; done)), H', ⟨by have := HJ6.out; first | omega | exact Nat.le_refl _⟩, by repeat (first | exact Drawn0.refl _ | apply Drawn0.step)⟩
        · rw [if_neg c28] at H
          have c28b0 : (a0 == 20) = false := beq_eq_false_iff_ne.mpr c28
          have c28b1 : (a0 != 20) = true := bne_iff_ne.mpr c28
          (first | rw [c28b0] | (simp only [i64_w, i32_w]; rw [c28b0]) | skip)
          have H' := Aside0.mk H
          clear H
          go_wp2
          go_meet
          case rel => (try rw [c8b0]); (try rw [c8b1]); (try rw [c11b0]); (try rw [c11b1]); (try rw [c14b0]); (try rw [c14b1]); (try rw [c21b0]); (try rw [c21b1]); (try rw [c28b0]); (try rw [c28b1]); exact ⟨_, ((a0 != 21)), (by first | rfl | (simp; done) | (simp [*]; done)), H', ⟨by have := HJ6.out; first | omega | exact Nat.le_refl _⟩, by repeat (first | exact Drawn0.refl _ | apply Drawn0.step)⟩
      case rest =>
        clear HC27
        try clear c1
        try clear c2
        try clear p2
        try clear c6
        try clear p6
        try clear c7
        try clear c8
        try clear c8b0
        try clear c8b1
        try clear c9
        try clear c11
        try clear c11b0
        try clear c11b1
        try clear c14
        try clear c14b0
        try clear c14b1
        try clear c17
        try clear c17b0
        try clear c17b1
        try clear c21
        try clear c21b0
        try clear c21b1
        try clear c25
        try clear c25b0
        try clear c25b1
        try clear c28
        try clear c28b0
        try clear c28b1
        try clear p2
        try clear p6
        obtain ⟨kq, x108_26, rfl, HA, HJ26, ⟨mc26, rfl⟩⟩ := hcut
        cases kq with
        | zero => exact absurd HA.out (by simp [spec_l06Once.j1])
        | succ kj26 =>
          have H := HA.out
          clear HA
          simp only [spec_l06Once.j1] at H
          by_cases c29 : x108_26 = true
          · subst c29
            have H1 : ((spec_l06Szp.f kj26 a1 x13_6).bind fun t119 => ((spec_l06If.f (x14_6 == 1) 1).bind fun t120 => ((spec_l06If.f (x15_6 == 1) 2048).bind fun t121 => (some (x13_6, Go.bits .or .i64 (Go.bits .or .i64 t119 t120) t121))))) = some (r1, r2) := by rw [if_pos rfl] at H; exact H
            clear H
            have H := H1
            clear H1
            replace H := Option.bind_eq_some_iff.mp H
            obtain ⟨t119, A300, H⟩ := H
            replace H : ((spec_l06If.f (x14_6 == 1) 1).bind fun t120 => ((spec_l06If.f (x15_6 == 1) 2048).bind fun t121 => (some (x13_6, Go.bits .or .i64 (Go.bits .or .i64 t119 t120) t121)))) = some (r1, r2) := H
            have A30 := Aside0.mk A300
            clear A300
            replace H := Option.bind_eq_some_iff.mp H
            obtain ⟨t120, A310, H⟩ := H
            replace H : ((spec_l06If.f (x15_6 == 1) 2048).bind fun t121 => (some (x13_6, Go.bits .or .i64 (Go.bits .or .i64 t119 t120) t121))) = some (r1, r2) := H
            have A31 := Aside0.mk A310
            clear A310
            replace H := Option.bind_eq_some_iff.mp H
            obtain ⟨t121, A320, H⟩ := H
            replace H : (some (x13_6, Go.bits .or .i64 (Go.bits .or .i64 t119 t120) t121)) = some (r1, r2) := H
            have A32 := Aside0.mk A320
            clear A320
            simp only [Option.some.injEq, Prod.mk.injEq] at H
            obtain ⟨rfl, rfl⟩ := H
            go_wp2_with (first | ((with_reducible refine gate_callee (f := 82) rfl ?_); refine goesL_ (some 111) rfl rfl Try.func82 (by kernel_rfl) rfl #[.int .i64 a1, .int .i64 x13_6] rfl (by (try simp only [List.map_toArray, List.map_cons, List.map_nil]); first | done | rfl | (simp only [List.length_drop, List.length_take]; rfl)) ?_; (with_reducible refine (spec_l06Szp.calls kj26 a1 x13_6 t119 _ A30.out).mono ?_); rintro e w' ⟨rfl, ⟨nd, rfl⟩⟩; refine ⟨_, rfl, ?_⟩) | ((with_reducible refine gate_callee (f := 80) rfl ?_); refine goesL_ (some 116) rfl rfl Try.func80 (by kernel_rfl) rfl #[.bool (x14_6 == 1), .int .i64 1] rfl (by (try simp only [List.map_toArray, List.map_cons, List.map_nil]); first | done | rfl | (simp only [List.length_drop, List.length_take]; rfl)) ?_; (with_reducible refine (spec_l06If.calls (x14_6 == 1) 1 t120 _ A31.out).mono ?_); rintro e w' ⟨rfl, ⟨nd, rfl⟩⟩; refine ⟨_, rfl, ?_⟩) | ((with_reducible refine gate_callee (f := 80) rfl ?_); refine goesL_ (some 120) rfl rfl Try.func80 (by kernel_rfl) rfl #[.bool (x15_6 == 1), .int .i64 2048] rfl (by (try simp only [List.map_toArray, List.map_cons, List.map_nil]); first | done | rfl | (simp only [List.length_drop, List.length_take]; rfl)) ?_; (with_reducible refine (spec_l06If.calls (x15_6 == 1) 2048 t121 _ A32.out).mono ?_); rintro e w' ⟨rfl, ⟨nd, rfl⟩⟩; refine ⟨_, rfl, ?_⟩))
            go_ret2
            exact ⟨by first | rfl | (simp; done) | (simp [*]; done), by repeat (first | exact Drawn0.refl _ | apply Drawn0.step)⟩
          · replace c29 := Bool.eq_false_iff.mpr c29
            subst c29
            have H1 : ((spec_l06If.f (x14_6 == 1) 1).bind fun t122 => ((spec_l06If.f (x15_6 == 1) 2048).bind fun t123 => (some (x13_6, Go.bits .or .i64 (Go.bits .or .i64 (Go.bits .and .i64 a3 196) t122) t123)))) = some (r1, r2) := by rw [if_neg (show ¬ (false = true) by decide)] at H; exact H
            clear H
            have H := H1
            clear H1
            replace H := Option.bind_eq_some_iff.mp H
            obtain ⟨t122, A330, H⟩ := H
            replace H : ((spec_l06If.f (x15_6 == 1) 2048).bind fun t123 => (some (x13_6, Go.bits .or .i64 (Go.bits .or .i64 (Go.bits .and .i64 a3 196) t122) t123))) = some (r1, r2) := H
            have A33 := Aside0.mk A330
            clear A330
            replace H := Option.bind_eq_some_iff.mp H
            obtain ⟨t123, A340, H⟩ := H
            replace H : (some (x13_6, Go.bits .or .i64 (Go.bits .or .i64 (Go.bits .and .i64 a3 196) t122) t123)) = some (r1, r2) := H
            have A34 := Aside0.mk A340
            clear A340
            simp only [Option.some.injEq, Prod.mk.injEq] at H
            obtain ⟨rfl, rfl⟩ := H
            go_wp2_with (first | ((with_reducible refine gate_callee (f := 80) rfl ?_); refine goesL_ (some 116) rfl rfl Try.func80 (by kernel_rfl) rfl #[.bool (x14_6 == 1), .int .i64 1] rfl (by (try simp only [List.map_toArray, List.map_cons, List.map_nil]); first | done | rfl | (simp only [List.length_drop, List.length_take]; rfl)) ?_; (with_reducible refine (spec_l06If.calls (x14_6 == 1) 1 t122 _ A33.out).mono ?_); rintro e w' ⟨rfl, ⟨nd, rfl⟩⟩; refine ⟨_, rfl, ?_⟩) | ((with_reducible refine gate_callee (f := 80) rfl ?_); refine goesL_ (some 120) rfl rfl Try.func80 (by kernel_rfl) rfl #[.bool (x15_6 == 1), .int .i64 2048] rfl (by (try simp only [List.map_toArray, List.map_cons, List.map_nil]); first | done | rfl | (simp only [List.length_drop, List.length_take]; rfl)) ?_; (with_reducible refine (spec_l06If.calls (x15_6 == 1) 2048 t123 _ A34.out).mono ?_); rintro e w' ⟨rfl, ⟨nd, rfl⟩⟩; refine ⟨_, rfl, ?_⟩))
            go_ret2
            exact ⟨by first | rfl | (simp; done) | (simp [*]; done), by repeat (first | exact Drawn0.refl _ | apply Drawn0.step)⟩

end Go.Proofs.Ytdljhgmgpnpfiaa.PFnShifts
