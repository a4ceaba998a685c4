-- Written for this claim by the session's own program, out of the translation. Not trusted: Lean checks it.
import Derived.Test.YtdljhgmgpnpfiaaPFnExactDividex0
namespace Go.Proofs.Ytdljhgmgpnpfiaa.PFnExactDivide
open Go.RowKit Go.Proofs.YtdljhgmgpnpfiaaW.PrintWords Go.Proofs.YtdljhgmgpnpfiaaW.PrintLast Go.Proofs.YtdljhgmgpnpfiaaW.PrintMore
attribute [local go_sem] max2_int min2_int max_two min_two max_three min_three max_four min_four   -- for this text's walks alone
set_option linter.unusedVariables false
set_option linter.unusedSimpArgs false

/-! ### spec_l01Size: function 39 -/
def spec_l01Size.f (a0 : Int) : Option (Bool) := if a0 = 1 then (some true) else (if a0 = 2 then (some true) else (if a0 = 4 then (some true) else (some (a0 == 8))))
set_option maxHeartbeats 8000000 in
set_option maxRecDepth 100000 in
theorem spec_l01Size.calls (a0 : Int) (r : Bool) (w : World) (h : spec_l01Size.f a0 = some r) :
    Calls Try.prog 39 #[.int .i64 a0] w fun e w' => e = .returned (.bool r) ∧ Drawn0 w w' := by
  have H : (if a0 = 1 then (some true) else (if a0 = 2 then (some true) else (if a0 = 4 then (some true) else (some (a0 == 8))))) = some r := h
  clear h
  by_cases c2 : a0 = 1
  · rw [if_pos c2] at H
    have c2b0 : (a0 == 1) = true := beq_iff_eq.mpr c2
    have c2b1 : (a0 != 1) = false := bne_eq_false_iff_eq.mpr c2
    clear c2
    obtain rfl := Option.some.inj H
    go_enter Try.func39, Try.ntmps39
    go_wp2
    go_ret
    exact ⟨by first | rfl | (simp; done) | (simp [*]; done), by repeat (first | exact Drawn0.refl _ | apply Drawn0.step)⟩
  · rw [if_neg c2] at H
    have c2b0 : (a0 == 1) = false := beq_eq_false_iff_ne.mpr c2
    have c2b1 : (a0 != 1) = true := bne_iff_ne.mpr c2
    by_cases c3 : a0 = 2
    · rw [if_pos c3] at H
      have c3b0 : (a0 == 2) = true := beq_iff_eq.mpr c3
      have c3b1 : (a0 != 2) = false := bne_eq_false_iff_eq.mpr c3
      clear c3
      obtain rfl := Option.some.inj H
      go_enter Try.func39, Try.ntmps39
      go_wp2
      go_ret
      exact ⟨by first | rfl | (simp; done) | (simp [*]; done), by repeat (first | exact Drawn0.refl _ | apply Drawn0.step)⟩
    · rw [if_neg c3] at H
      have c3b0 : (a0 == 2) = false := beq_eq_false_iff_ne.mpr c3
      have c3b1 : (a0 != 2) = true := bne_iff_ne.mpr c3
      by_cases c4 : a0 = 4
      · rw [if_pos c4] at H
        have c4b0 : (a0 == 4) = true := beq_iff_eq.mpr c4
        have c4b1 : (a0 != 4) = false := bne_eq_false_iff_eq.mpr c4
        clear c4
        obtain rfl := Option.some.inj H
        go_enter Try.func39, Try.ntmps39
        go_wp2
        go_ret
        exact ⟨by first | rfl | (simp; done) | (simp [*]; done), by repeat (first | exact Drawn0.refl _ | apply Drawn0.step)⟩
      · rw [if_neg c4] at H
        have c4b0 : (a0 == 4) = false := beq_eq_false_iff_ne.mpr c4
        have c4b1 : (a0 != 4) = true := bne_iff_ne.mpr c4
        obtain rfl := Option.some.inj H
        go_enter Try.func39, Try.ntmps39
        go_wp2
        go_ret
        exact ⟨by first | rfl | (simp; done) | (simp [*]; done), by repeat (first | exact Drawn0.refl _ | apply Drawn0.step)⟩

/-! ### spec_l01Bit: function 94 -/
def spec_l01Bit.f (a0 : Int) (a1 : Int) : Option (Int) := if 0 ≤ (IntKind.u64.wrap (a1)) then (if (Int.tmod (shr .u64 (IntKind.u64.wrap (a0)) (IntKind.u64.wrap (a1))) 2) = 1 then (some 1) else (some 0)) else (none)
set_option maxHeartbeats 8000000 in
set_option maxRecDepth 100000 in
theorem spec_l01Bit.calls (a0 : Int) (a1 : Int) (r : Int) (w : World) (h : spec_l01Bit.f a0 a1 = some r) :
    Calls Try.prog 94 #[.int .i64 a0, .int .i64 a1] w fun e w' => e = .returned (.int .i64 r) ∧ Drawn0 w w' := by
  have H : (if 0 ≤ (IntKind.u64.wrap (a1)) then (if (Int.tmod (shr .u64 (IntKind.u64.wrap (a0)) (IntKind.u64.wrap (a1))) 2) = 1 then (some 1) else (some 0)) else (none)) = some r := h
  clear h
  obtain ⟨ji3, hji3⟩ : ∃ j_ : Int, (IntKind.u64.wrap (a1)) = j_ := ⟨_, rfl⟩
  replace H : (if 0 ≤ (ji3) then (if (Int.tmod (shr .u64 (IntKind.u64.wrap (a0)) (ji3)) 2) = 1 then (some 1) else (some 0)) else (none)) = some r := by first | (rw [hji3] at H; exact H) | (simp only [hji3] at H ⊢; exact H)
  by_cases c4 : 0 ≤ (ji3)
  · rw [if_pos c4] at H
    have c4b0 := eq_true c4
    have c4b1 : decide (0 ≤ (ji3)) = true := decide_eq_true c4
    clear c4
    obtain ⟨ji5, hji5⟩ : ∃ j_ : Int, (shr .u64 (IntKind.u64.wrap (a0)) (ji3)) = j_ := ⟨_, rfl⟩
    replace H : (if (Int.tmod (ji5) 2) = 1 then (some 1) else (some 0)) = some r := by first | (rw [hji5] at H; exact H) | (simp only [hji5] at H ⊢; exact H)
    have hji5_ : ((IntKind.u64.wrap (a0)) / 2 ^ min (ji3).toNat 64) = ji5 := hji5
    have hji5z : (ji3) ≤ 64 → ((IntKind.u64.wrap (a0)) / 2 ^ (ji3).toNat) = ji5 := shr_small hji5
    by_cases c6 : (Int.tmod (ji5) 2) = 1
    · rw [if_pos c6] at H
      have c6b0 : ((Int.tmod (ji5) 2) == 1) = true := beq_iff_eq.mpr c6
      have c6b1 : ((Int.tmod (ji5) 2) != 1) = false := bne_eq_false_iff_eq.mpr c6
      clear c6
      obtain rfl := Option.some.inj H
      go_enter Try.func94, Try.ntmps94
      go_wp2
      go_ret
      exact ⟨by first | rfl | (simp; done) | (simp only [← hji3, ← hji5] <;> (first | rfl | simp)) | (simp [*]; done), by repeat (first | exact Drawn0.refl _ | apply Drawn0.step)⟩
    · rw [if_neg c6] at H
      have c6b0 : ((Int.tmod (ji5) 2) == 1) = false := beq_eq_false_iff_ne.mpr c6
      have c6b1 : ((Int.tmod (ji5) 2) != 1) = true := bne_iff_ne.mpr c6
      obtain rfl := Option.some.inj H
      go_enter Try.func94, Try.ntmps94
      go_wp2
      go_ret
      exact ⟨by first | rfl | (simp; done) | (simp only [← hji3, ← hji5] <;> (first | rfl | simp)) | (simp [*]; done), by repeat (first | exact Drawn0.refl _ | apply Drawn0.step)⟩
  · rw [if_neg c4] at H
    exact absurd H (by simp)

/-! ### spec_l01Zero: function 61 -/
def spec_l01Zero.l0 : Nat → Int → Int → Int → Option (Int)
  | 0, _, _, _ => none
  | k + 1, x0, x5, x6 => if x6 ≥ 0 then ((spec_l01Bit.f x0 x6).bind fun t101 => (spec_l01Zero.l0 k x0 (IntKind.u64.wrap ((IntKind.u64.wrap (2 * x5)) + (IntKind.u64.wrap (t101)))) (wrap64 (x6 - 1)))) else (some (wrap64 (x5)))
def spec_l01Zero.f (k : Nat) (a0 : Int) (a1 : Int) : Option (Int) := spec_l01Zero.l0 k a0 0 (wrap64 ((wrap64 (8 * a1)) - 1))
theorem spec_l01Zero.mono_l : ∀ k, (∀ y0 y1 y2, LeO (spec_l01Zero.l0 k y0 y1 y2) (spec_l01Zero.l0 (k + 1) y0 y1 y2))
  | 0 => fun _ _ _ r h => by simp [spec_l01Zero.l0] at h
  | k + 1 => by
    have ih0 := spec_l01Zero.mono_l k
    · intro y0 y1 y2
      unfold spec_l01Zero.l0
      repeat' first
      | (with_reducible exact ih0 _ _ _)
      | (with_reducible exact LeO.refl _)
      | (with_reducible exact LeO.none _)
      | (with_reducible refine LeO.ite ?_ ?_)
      | (with_reducible refine LeO.bind ?_ (fun _ => ?_))
      | exact ih0 _ _ _
      | exact LeO.none _
      | refine LeO.ite ?_ ?_
      | refine LeO.bind ?_ (fun _ => ?_)
theorem spec_l01Zero.mono : ∀ a0 a1 k, LeO (spec_l01Zero.f k a0 a1) (spec_l01Zero.f (k + 1) a0 a1) := by
  intro a0 a1 k
  have ih0 := spec_l01Zero.mono_l k
  unfold spec_l01Zero.f
  repeat' first
      | (with_reducible exact ih0 _ _ _)
      | (with_reducible exact LeO.refl _)
      | (with_reducible exact LeO.none _)
      | (with_reducible refine LeO.ite ?_ ?_)
      | (with_reducible refine LeO.bind ?_ (fun _ => ?_))
      | exact ih0 _ _ _
      | exact LeO.none _
      | refine LeO.ite ?_ ?_
      | refine LeO.bind ?_ (fun _ => ?_)
set_option maxHeartbeats 8000000 in
set_option maxRecDepth 100000 in
theorem spec_l01Zero.calls (k : Nat) (a0 : Int) (a1 : Int) (r : Int) (w : World) (h : spec_l01Zero.f k a0 a1 = some r) :
    Calls Try.prog 61 #[.int .i64 a0, .int .i64 a1] w fun e w' => e = .returned (.int .i64 r) ∧ Drawn0 w w' := by
  have H : (spec_l01Zero.l0 k a0 0 (wrap64 ((wrap64 (8 * a1)) - 1))) = some r := h
  clear h
  have H' := Aside0.mk H
  clear H
  go_enter Try.func61, Try.ntmps61
  go_wp2
  go_loopg [5, 6] k (fun kq v5 v6 w' => ∃ (x5_1 : Int) (x6_1 : Int), v5 = .int .u64 x5_1 ∧ v6 = .int .i64 x6_1 ∧ Aside0 (spec_l01Zero.l0 kq a0 x5_1 x6_1 = some r) ∧ Aside0 (kq ≤ k) ∧ Drawn0 w w')
  case atStart => exact ⟨(0), (wrap64 ((wrap64 (8 * a1)) - 1)), (by first | rfl | (simp; done) | (simp [*]; done)), (by first | rfl | (simp; done) | (simp [*]; done)), H', ⟨Nat.le_refl _⟩, by repeat (first | exact Drawn0.refl _ | apply Drawn0.step)⟩
  case round =>
    clear H'
    try clear p2
    obtain ⟨x5_1, x6_1, rfl, rfl, HA, HK1, ⟨m1, rfl⟩⟩ := hrel
    cases gk with
    | zero => exact absurd HA.out (by simp [spec_l01Zero.l0])
    | succ k1 =>
      have H := HA.out
      clear HA
      simp only [spec_l01Zero.l0] at H
      by_cases c3 : x6_1 ≥ 0
      · rw [if_pos c3] at H
        have c3b0 : decide (0 ≤ x6_1) = true := decide_eq_true c3
        clear c3
        replace H := Option.bind_eq_some_iff.mp H
        obtain ⟨t101, A40, H⟩ := H
        replace H : (spec_l01Zero.l0 k1 a0 (IntKind.u64.wrap ((IntKind.u64.wrap (2 * x5_1)) + (IntKind.u64.wrap (t101)))) (wrap64 (x6_1 - 1))) = some r := H
        have A4 := Aside0.mk A40
        clear A40
        have H' := Aside0.mk H
        clear H
        go_wp2_with (first | ((with_reducible refine gate_callee (f := 94) rfl ?_); refine goesL_ (some 18) rfl rfl Try.func94 (by kernel_rfl) rfl #[.int .i64 a0, .int .i64 x6_1] rfl (by (try simp only [List.map_toArray, List.map_cons, List.map_nil]); first | done | rfl | (simp only [List.length_drop, List.length_take]; rfl)) ?_; (with_reducible refine (spec_l01Bit.calls a0 x6_1 t101 _ A4.out).mono ?_); rintro e w' ⟨rfl, ⟨nd, rfl⟩⟩; refine ⟨_, rfl, ?_⟩))
        go_roundg k1
        case measure => have := HK1.out; omega
        case rel => exact ⟨(IntKind.u64.wrap ((IntKind.u64.wrap (2 * x5_1)) + (IntKind.u64.wrap (t101)))), (wrap64 (x6_1 - 1)), (by first | rfl | (simp; done) | (simp [*]; done)), (by first | rfl | (simp; done) | (simp [*]; done)), H', ⟨by have := HK1.out; omega⟩, by repeat (first | exact Drawn0.refl _ | apply Drawn0.step)⟩
      · rw [if_neg c3] at H
        have c3b0 : decide (0 ≤ x6_1) = false := decide_eq_false c3
        clear c3
        obtain rfl := Option.some.inj H
        go_wp2
        go_ret
        exact ⟨by first | rfl | (simp; done) | (simp [*]; done), by repeat (first | exact Drawn0.refl _ | apply Drawn0.step)⟩

/-! ### spec_l01Sign: function 71 -/
def spec_l01Sign.l0 : Nat → Int → Int → Int → Int → Option (Int)
  | 0, _, _, _, _ => none
  | k + 1, x0, x1, x5, x6 => if x6 ≥ 0 then ((spec_l01Bit.f x0 (mn x6 (wrap64 ((wrap64 (8 * x1)) - 1)))).bind fun t102 => (spec_l01Sign.l0 k x0 x1 (IntKind.u64.wrap ((IntKind.u64.wrap (2 * x5)) + (IntKind.u64.wrap (t102)))) (wrap64 (x6 - 1)))) else (some (wrap64 (x5)))
def spec_l01Sign.f (k : Nat) (a0 : Int) (a1 : Int) : Option (Int) := spec_l01Sign.l0 k a0 a1 0 63
theorem spec_l01Sign.mono_l : ∀ k, (∀ y0 y1 y2 y3, LeO (spec_l01Sign.l0 k y0 y1 y2 y3) (spec_l01Sign.l0 (k + 1) y0 y1 y2 y3))
  | 0 => fun _ _ _ _ r h => by simp [spec_l01Sign.l0] at h
  | k + 1 => by
    have ih0 := spec_l01Sign.mono_l k
    · intro y0 y1 y2 y3
      unfold spec_l01Sign.l0
      repeat' first
      | (with_reducible exact ih0 _ _ _ _)
      | (with_reducible exact LeO.refl _)
      | (with_reducible exact LeO.none _)
      | (with_reducible refine LeO.ite ?_ ?_)
      | (with_reducible refine LeO.bind ?_ (fun _ => ?_))
      | exact ih0 _ _ _ _
      | exact LeO.none _
      | refine LeO.ite ?_ ?_
      | refine LeO.bind ?_ (fun _ => ?_)
theorem spec_l01Sign.mono : ∀ a0 a1 k, LeO (spec_l01Sign.f k a0 a1) (spec_l01Sign.f (k + 1) a0 a1) := by
  intro a0 a1 k
  have ih0 := spec_l01Sign.mono_l k
  unfold spec_l01Sign.f
  repeat' first
      | (with_reducible exact ih0 _ _ _ _)
      | (with_reducible exact LeO.refl _)
      | (with_reducible exact LeO.none _)
      | (with_reducible refine LeO.ite ?_ ?_)
      | (with_reducible refine LeO.bind ?_ (fun _ => ?_))
      | exact ih0 _ _ _ _
      | exact LeO.none _
      | refine LeO.ite ?_ ?_
      | refine LeO.bind ?_ (fun _ => ?_)
set_option maxHeartbeats 8000000 in
set_option maxRecDepth 100000 in
theorem spec_l01Sign.calls (k : Nat) (a0 : Int) (a1 : Int) (r : Int) (w : World) (h : spec_l01Sign.f k a0 a1 = some r) :
    Calls Try.prog 71 #[.int .i64 a0, .int .i64 a1] w fun e w' => e = .returned (.int .i64 r) ∧ Below w.heap.size w w' := by
  have HB := Aside0.mk (Below.refl w.heap.size w)
  have H : (spec_l01Sign.l0 k a0 a1 0 63) = some r := h
  clear h
  have H' := Aside0.mk H
  clear H
  go_enter Try.func71, Try.ntmps71
  go_wp2
  go_loopg [5, 6] k (fun kq v5 v6 w' => ∃ (x5_1 : Int) (x6_1 : Int), v5 = .int .u64 x5_1 ∧ v6 = .int .i64 x6_1 ∧ Aside0 (spec_l01Sign.l0 kq a0 a1 x5_1 x6_1 = some r) ∧ Aside0 (kq ≤ k) ∧ Aside0 (Below w.heap.size w w'))
  case atStart => exact ⟨(0), (63), (by first | rfl | (simp; done) | (simp [*]; done)), (by first | rfl | (simp; done) | (simp [*]; done)), H', ⟨Nat.le_refl _⟩, ⟨by repeat (first | (with_reducible first | exact HB.out | apply below_alloc | apply pw_below_drewN | apply below_drew1) | exact HB.out)⟩⟩
  case round =>
    clear H'
    try clear p2
    obtain ⟨x5_1, x6_1, rfl, rfl, HA, HK1, HB⟩ := hrel
    cases gk with
    | zero => exact absurd HA.out (by simp [spec_l01Sign.l0])
    | succ k1 =>
      have H := HA.out
      clear HA
      simp only [spec_l01Sign.l0] at H
      by_cases c3 : x6_1 ≥ 0
      · rw [if_pos c3] at H
        have c3b0 : decide (0 ≤ x6_1) = true := decide_eq_true c3
        clear c3
        obtain ⟨ji4, hji4⟩ : ∃ j_ : Int, (mn x6_1 (wrap64 ((wrap64 (8 * a1)) - 1))) = j_ := ⟨_, rfl⟩
        replace H : ((spec_l01Bit.f a0 (ji4)).bind fun t102 => (spec_l01Sign.l0 k1 a0 a1 (IntKind.u64.wrap ((IntKind.u64.wrap (2 * x5_1)) + (IntKind.u64.wrap (t102)))) (wrap64 (x6_1 - 1)))) = some r := by first | (rw [hji4] at H; exact H) | (simp only [hji4] at H ⊢; exact H)
        have hji4_ : (if (wrap64 ((wrap64 (8 * a1)) - 1)) < x6_1 then (wrap64 ((wrap64 (8 * a1)) - 1)) else x6_1) = ji4 := hji4
        replace H := Option.bind_eq_some_iff.mp H
        obtain ⟨t102, A50, H⟩ := H
        replace H : (spec_l01Sign.l0 k1 a0 a1 (IntKind.u64.wrap ((IntKind.u64.wrap (2 * x5_1)) + (IntKind.u64.wrap (t102)))) (wrap64 (x6_1 - 1))) = some r := H
        have A5 := Aside0.mk A50
        clear A50
        have H' := Aside0.mk H
        clear H
        go_wp2_with (first | ((with_reducible refine gate_callee (f := 94) rfl ?_); refine goesL_ (some 19) rfl rfl Try.func94 (by kernel_rfl) rfl #[.int .i64 a0, .int .i64 ji4] rfl (by (try simp only [List.map_toArray, List.map_cons, List.map_nil]); first | done | (simp only [hji4]; rfl) | rfl | (simp only [List.length_drop, List.length_take]; rfl)) ?_; (with_reducible refine (spec_l01Bit.calls a0 ji4 t102 _ A5.out).mono ?_); rintro e w' ⟨rfl, ⟨nd, rfl⟩⟩; refine ⟨_, rfl, ?_⟩))
        go_roundg k1
        case measure => have := HK1.out; omega
        case rel => exact ⟨(IntKind.u64.wrap ((IntKind.u64.wrap (2 * x5_1)) + (IntKind.u64.wrap (t102)))), (wrap64 (x6_1 - 1)), (by first | rfl | (simp; done) | (simp [*]; done)), (by first | rfl | (simp; done) | (simp [*]; done)), H', ⟨by have := HK1.out; omega⟩, ⟨by repeat (first | (with_reducible first | exact HB.out | apply below_alloc | apply pw_below_drewN | apply below_drew1) | exact HB.out)⟩⟩
      · rw [if_neg c3] at H
        have c3b0 : decide (0 ≤ x6_1) = false := decide_eq_false c3
        clear c3
        obtain rfl := Option.some.inj H
        go_wp2
        go_ret
        exact ⟨by first | rfl | (simp [errW_none, errW_some] <;> rfl) | (simp [*, errW_none, errW_some] <;> rfl), by repeat (first | (with_reducible first | exact HB.out | apply below_alloc | apply pw_below_drewN | apply below_drew1) | exact HB.out)⟩

/-! ### spec_l06Join: function 85 -/
def spec_l06Join.j0 : Nat → Int → Int → Bool → Option (Int × Int)
  | 0, _, _, _ => none
  | k + 1, x0, x10, x38 => if x38 = true then (if x0 < 4 then (if 0 ≤ (IntKind.u64.wrap (wrap64 (16 * x0))) then (some (18446744073709551615, Go.bits .or .u64 x10 (shl .u64 18446744073709551615 (IntKind.u64.wrap (wrap64 (16 * x0)))))) else (none)) else (some (18446744073709551615, x10))) else (some (0, x10))
def spec_l06Join.f (k : Nat) (a0 : Int) (a1 : Int) (a2 : Int) (a3 : Bool) : Option (Int × Int) := if a0 = 8 then (some (IntKind.u64.wrap (a1), IntKind.u64.wrap (a2))) else ((spec_l01Zero.f k a1 a0).bind fun t103 => (if 0 ≤ (IntKind.u64.wrap (wrap64 (8 * a0))) then ((spec_l01Zero.f k a2 a0).bind fun t104 => (if a3 = true then ((spec_l01Bit.f a1 (wrap64 ((wrap64 (8 * a0)) - 1))).bind fun t105 => (spec_l06Join.j0 k a0 (Go.bits .or .u64 (shl .u64 (IntKind.u64.wrap (t103)) (IntKind.u64.wrap (wrap64 (8 * a0)))) (IntKind.u64.wrap (t104))) (t105 == 1))) else (spec_l06Join.j0 k a0 (Go.bits .or .u64 (shl .u64 (IntKind.u64.wrap (t103)) (IntKind.u64.wrap (wrap64 (8 * a0)))) (IntKind.u64.wrap (t104))) false))) else (none)))
theorem spec_l06Join.mono_l : ∀ k, (∀ y0 y1 y2, LeO (spec_l06Join.j0 k y0 y1 y2) (spec_l06Join.j0 (k + 1) y0 y1 y2))
  | 0 => fun _ _ _ r h => by simp [spec_l06Join.j0] at h
  | k + 1 => by
    have ih0 := spec_l06Join.mono_l k
    · intro y0 y1 y2
      unfold spec_l06Join.j0
      repeat' first
      | (with_reducible exact ih0 _ _ _)
      | (with_reducible exact spec_l01Zero.mono _ _ _)
      | (with_reducible exact LeO.refl _)
      | (with_reducible exact LeO.none _)
      | (with_reducible refine LeO.ite ?_ ?_)
      | (with_reducible refine LeO.bind ?_ (fun _ => ?_))
      | exact ih0 _ _ _
      | exact spec_l01Zero.mono _ _ _
      | exact LeO.none _
      | refine LeO.ite ?_ ?_
      | refine LeO.bind ?_ (fun _ => ?_)
theorem spec_l06Join.mono : ∀ a0 a1 a2 a3 k, LeO (spec_l06Join.f k a0 a1 a2 a3) (spec_l06Join.f (k + 1) a0 a1 a2 a3) := by
  intro a0 a1 a2 a3 k
  have ih0 := spec_l06Join.mono_l k
  unfold spec_l06Join.f
  repeat' first
      | (with_reducible exact ih0 _ _ _)
      | (with_reducible exact spec_l01Zero.mono _ _ _)
      | (with_reducible exact LeO.refl _)
      | (with_reducible exact LeO.none _)
      | (with_reducible refine LeO.ite ?_ ?_)
      | (with_reducible refine LeO.bind ?_ (fun _ => ?_))
      | exact ih0 _ _ _
      | exact spec_l01Zero.mono _ _ _
      | exact LeO.none _
      | refine LeO.ite ?_ ?_
      | refine LeO.bind ?_ (fun _ => ?_)
set_option maxHeartbeats 8000000 in
set_option maxRecDepth 100000 in
theorem spec_l06Join.calls (k : Nat) (a0 : Int) (a1 : Int) (a2 : Int) (a3 : Bool) (r1 : Int) (r2 : Int) (w : World) (h : spec_l06Join.f k a0 a1 a2 a3 = some (r1, r2)) :
    Calls Try.prog 85 #[.int .i64 a0, .int .i64 a1, .int .i64 a2, .bool a3] w fun e w' => e = .returned (.tuple #[.int .u64 r1, .int .u64 r2]) ∧ Drawn0 w w' := by
  have H : (if a0 = 8 then (some (IntKind.u64.wrap (a1), IntKind.u64.wrap (a2))) else ((spec_l01Zero.f k a1 a0).bind fun t103 => (if 0 ≤ (IntKind.u64.wrap (wrap64 (8 * a0))) then ((spec_l01Zero.f k a2 a0).bind fun t104 => (if a3 = true then ((spec_l01Bit.f a1 (wrap64 ((wrap64 (8 * a0)) - 1))).bind fun t105 => (spec_l06Join.j0 k a0 (Go.bits .or .u64 (shl .u64 (IntKind.u64.wrap (t103)) (IntKind.u64.wrap (wrap64 (8 * a0)))) (IntKind.u64.wrap (t104))) (t105 == 1))) else (spec_l06Join.j0 k a0 (Go.bits .or .u64 (shl .u64 (IntKind.u64.wrap (t103)) (IntKind.u64.wrap (wrap64 (8 * a0)))) (IntKind.u64.wrap (t104))) false))) else (none)))) = some (r1, r2) := h
  clear h
  by_cases c5 : a0 = 8
  · rw [if_pos c5] at H
    have c5b0 : (a0 == 8) = true := beq_iff_eq.mpr c5
    have c5b1 : (a0 != 8) = false := bne_eq_false_iff_eq.mpr c5
    clear c5
    simp only [Option.some.injEq, Prod.mk.injEq] at H
    obtain ⟨rfl, rfl⟩ := H
    go_enter Try.func85, Try.ntmps85
    go_wp2
    go_ret2
    exact ⟨by first | rfl | (simp; done) | (simp [*]; done), by repeat (first | exact Drawn0.refl _ | apply Drawn0.step)⟩
  · rw [if_neg c5] at H
    have c5b0 : (a0 == 8) = false := beq_eq_false_iff_ne.mpr c5
    have c5b1 : (a0 != 8) = true := bne_iff_ne.mpr c5
    replace H := Option.bind_eq_some_iff.mp H
    obtain ⟨t103, A60, H⟩ := H
    replace H : (if 0 ≤ (IntKind.u64.wrap (wrap64 (8 * a0))) then ((spec_l01Zero.f k a2 a0).bind fun t104 => (if a3 = true then ((spec_l01Bit.f a1 (wrap64 ((wrap64 (8 * a0)) - 1))).bind fun t105 => (spec_l06Join.j0 k a0 (Go.bits .or .u64 (shl .u64 (IntKind.u64.wrap (t103)) (IntKind.u64.wrap (wrap64 (8 * a0)))) (IntKind.u64.wrap (t104))) (t105 == 1))) else (spec_l06Join.j0 k a0 (Go.bits .or .u64 (shl .u64 (IntKind.u64.wrap (t103)) (IntKind.u64.wrap (wrap64 (8 * a0)))) (IntKind.u64.wrap (t104))) false))) else (none)) = some (r1, r2) := H
    have A6 := Aside0.mk A60
    clear A60
    obtain ⟨ji7, hji7⟩ : ∃ j_ : Int, (IntKind.u64.wrap (wrap64 (8 * a0))) = j_ := ⟨_, rfl⟩
    replace H : (if 0 ≤ (ji7) then ((spec_l01Zero.f k a2 a0).bind fun t104 => (if a3 = true then ((spec_l01Bit.f a1 (wrap64 ((wrap64 (8 * a0)) - 1))).bind fun t105 => (spec_l06Join.j0 k a0 (Go.bits .or .u64 (shl .u64 (IntKind.u64.wrap (t103)) (ji7)) (IntKind.u64.wrap (t104))) (t105 == 1))) else (spec_l06Join.j0 k a0 (Go.bits .or .u64 (shl .u64 (IntKind.u64.wrap (t103)) (ji7)) (IntKind.u64.wrap (t104))) false))) else (none)) = some (r1, r2) := by first | (rw [hji7] at H; exact H) | (simp only [hji7] at H ⊢; exact H)
    (try rw [hji7] at A6)
    by_cases c8 : 0 ≤ (ji7)
    · rw [if_pos c8] at H
      have c8b0 := eq_true c8
      have c8b1 : decide (0 ≤ (ji7)) = true := decide_eq_true c8
      clear c8
      obtain ⟨ji9, hji9⟩ : ∃ j_ : Int, (shl .u64 (IntKind.u64.wrap (t103)) (ji7)) = j_ := ⟨_, rfl⟩
      replace H : ((spec_l01Zero.f k a2 a0).bind fun t104 => (if a3 = true then ((spec_l01Bit.f a1 (wrap64 ((wrap64 (8 * a0)) - 1))).bind fun t105 => (spec_l06Join.j0 k a0 (Go.bits .or .u64 (ji9) (IntKind.u64.wrap (t104))) (t105 == 1))) else (spec_l06Join.j0 k a0 (Go.bits .or .u64 (ji9) (IntKind.u64.wrap (t104))) false))) = some (r1, r2) := by first | (rw [hji9] at H; exact H) | (simp only [hji9] at H ⊢; exact H)
      (try rw [hji9] at A6)
      have hji9_ : (IntKind.u64.wrap ((IntKind.u64.wrap (t103)) * 2 ^ min (ji7).toNat 64)) = ji9 := hji9
      have hji9z : (ji7) ≤ 64 → (IntKind.u64.wrap ((IntKind.u64.wrap (t103)) * 2 ^ (ji7).toNat)) = ji9 := shl_small hji9
      replace H := Option.bind_eq_some_iff.mp H
      obtain ⟨t104, A100, H⟩ := H
      replace H : (if a3 = true then ((spec_l01Bit.f a1 (wrap64 ((wrap64 (8 * a0)) - 1))).bind fun t105 => (spec_l06Join.j0 k a0 (Go.bits .or .u64 (ji9) (IntKind.u64.wrap (t104))) (t105 == 1))) else (spec_l06Join.j0 k a0 (Go.bits .or .u64 (ji9) (IntKind.u64.wrap (t104))) false)) = some (r1, r2) := H
      have A10 := Aside0.mk A100
      clear A100
      have HC11 := Aside0.mk H
      clear H
      go_enter Try.func85, Try.ntmps85
      go_upto_region 4 with (first | ((with_reducible refine gate_callee (f := 61) rfl ?_); refine goesL_ (some 19) rfl rfl Try.func61 (by kernel_rfl) rfl #[.int .i64 a1, .int .i64 a0] rfl (by (try simp only [List.map_toArray, List.map_cons, List.map_nil]); first | done | rfl | (simp only [List.length_drop, List.length_take]; rfl)) ?_; (with_reducible refine (spec_l01Zero.calls k a1 a0 t103 _ A6.out).mono ?_); rintro e w' ⟨rfl, ⟨nd, rfl⟩⟩; refine ⟨_, rfl, ?_⟩) | ((with_reducible refine gate_callee (f := 61) rfl ?_); refine goesL_ (some 27) rfl rfl Try.func61 (by kernel_rfl) rfl #[.int .i64 a2, .int .i64 a0] rfl (by (try simp only [List.map_toArray, List.map_cons, List.map_nil]); first | done | rfl | (simp only [List.length_drop, List.length_take]; rfl)) ?_; (with_reducible refine (spec_l01Zero.calls k a2 a0 t104 _ A10.out).mono ?_); rintro e w' ⟨rfl, ⟨nd, rfl⟩⟩; refine ⟨_, rfl, ?_⟩))
      (try simp only [Act.put, List.setIfInBounds_toArray, List.set_cons_zero, List.set_cons_succ])
      go_cut [38] (fun v38 wc => ∃ (kq : Nat) (x38_10 : Bool), v38 = .bool x38_10 ∧ Aside0 (spec_l06Join.j0 kq a0 (Go.bits .or .u64 (ji9) (IntKind.u64.wrap (t104))) x38_10 = some (r1, r2)) ∧ Aside0 (kq ≤ k) ∧ Drawn0 w wc)
      case first =>
        have H := HC11.out
        clear HC11
        by_cases c12 : a3 = true
        · subst c12
          have H1 : ((spec_l01Bit.f a1 (wrap64 ((wrap64 (8 * a0)) - 1))).bind fun t105 => (spec_l06Join.j0 k a0 (Go.bits .or .u64 (ji9) (IntKind.u64.wrap (t104))) (t105 == 1))) = some (r1, r2) := by rw [if_pos rfl] at H; exact H
          clear H
          have H := H1
          clear H1
          replace H := Option.bind_eq_some_iff.mp H
          obtain ⟨t105, A130, H⟩ := H
          replace H : (spec_l06Join.j0 k a0 (Go.bits .or .u64 (ji9) (IntKind.u64.wrap (t104))) (t105 == 1)) = some (r1, r2) := H
          have A13 := Aside0.mk A130
          clear A130
          have H' := Aside0.mk H
          clear H
          go_wp2_with (first | (go_at_call 94; (with_reducible refine (spec_l01Bit.calls a1 (wrap64 ((wrap64 (8 * a0)) - 1)) t105 _ A13.out).mono ?_); rintro e w' ⟨rfl, ⟨nd, rfl⟩⟩))
          (first | go_meet | ((try simp only [c5b0] at *); (try simp only [c5b1] at *); go_meet))
          case rel => (try rw [c5b0]); (try rw [c5b0] at H'); (try rw [c5b1]); (try rw [c5b1] at H'); exact ⟨_, ((t105 == 1)), (by first | rfl | (simp; done) | (simp [*]; done)), H', ⟨by first | omega | exact Nat.le_refl _⟩, by repeat (first | exact Drawn0.refl _ | apply Drawn0.step)⟩
        · replace c12 := Bool.eq_false_iff.mpr c12
          subst c12
          have H1 : (spec_l06Join.j0 k a0 (Go.bits .or .u64 (ji9) (IntKind.u64.wrap (t104))) false) = some (r1, r2) := by rw [if_neg (show ¬ (false = true) by decide)] at H; exact H
          clear H
          have H := H1
          clear H1
          have H' := Aside0.mk H
          clear H
          go_wp2
          (first | go_meet | ((try simp only [c5b0] at *); (try simp only [c5b1] at *); go_meet))
          case rel => (try rw [c5b0]); (try rw [c5b0] at H'); (try rw [c5b1]); (try rw [c5b1] at H'); exact ⟨_, (false), (by first | rfl | (simp; done) | (simp [*]; done)), H', ⟨by first | omega | exact Nat.le_refl _⟩, by repeat (first | exact Drawn0.refl _ | apply Drawn0.step)⟩
      case rest =>
        clear HC11
        try clear c1
        try clear p2
        try clear c5
        try clear c5b0
        try clear c5b1
        try clear c6
        try clear p6
        try clear c8
        try clear c8b0
        try clear c8b1
        try clear c12
        obtain ⟨kq, x38_10, rfl, HA, HJ10, ⟨mc10, rfl⟩⟩ := hcut
        cases kq with
        | zero => exact absurd HA.out (by simp [spec_l06Join.j0])
        | succ kj10 =>
          have H := HA.out
          clear HA
          simp only [spec_l06Join.j0] at H
          by_cases c14 : x38_10 = true
          · subst c14
            have H1 : (if a0 < 4 then (if 0 ≤ (IntKind.u64.wrap (wrap64 (16 * a0))) then (some (18446744073709551615, Go.bits .or .u64 (Go.bits .or .u64 (ji9) (IntKind.u64.wrap (t104))) (shl .u64 18446744073709551615 (IntKind.u64.wrap (wrap64 (16 * a0)))))) else (none)) else (some (18446744073709551615, (Go.bits .or .u64 (ji9) (IntKind.u64.wrap (t104)))))) = some (r1, r2) := by rw [if_pos rfl] at H; exact H
            clear H
            have H := H1
            clear H1
            by_cases c15 : a0 < 4
            · rw [if_pos c15] at H
              have c15b0 : decide (a0 < 4) = true := decide_eq_true c15
              clear c15
              obtain ⟨ji16, hji16⟩ : ∃ j_ : Int, (IntKind.u64.wrap (wrap64 (16 * a0))) = j_ := ⟨_, rfl⟩
              replace H : (if 0 ≤ (ji16) then (some (18446744073709551615, Go.bits .or .u64 (Go.bits .or .u64 (ji9) (IntKind.u64.wrap (t104))) (shl .u64 18446744073709551615 (ji16)))) else (none)) = some (r1, r2) := by first | (rw [hji16] at H; exact H) | (simp only [hji16] at H ⊢; exact H)
              by_cases c17 : 0 ≤ (ji16)
              · rw [if_pos c17] at H
                have c17b0 := eq_true c17
                have c17b1 : decide (0 ≤ (ji16)) = true := decide_eq_true c17
                clear c17
                obtain ⟨ji18, hji18⟩ : ∃ j_ : Int, (shl .u64 18446744073709551615 (ji16)) = j_ := ⟨_, rfl⟩
                replace H : (some (18446744073709551615, Go.bits .or .u64 (Go.bits .or .u64 (ji9) (IntKind.u64.wrap (t104))) (ji18))) = some (r1, r2) := by first | (rw [hji18] at H; exact H) | (simp only [hji18] at H ⊢; exact H)
                have hji18_ : (IntKind.u64.wrap (18446744073709551615 * 2 ^ min (ji16).toNat 64)) = ji18 := hji18
                have hji18z : (ji16) ≤ 64 → (IntKind.u64.wrap (18446744073709551615 * 2 ^ (ji16).toNat)) = ji18 := shl_small hji18
                simp only [Option.some.injEq, Prod.mk.injEq] at H
                obtain ⟨rfl, rfl⟩ := H
                go_wp2
                go_ret2
                exact ⟨by first | rfl | (simp; done) | (simp only [← hji7, ← hji9, ← hji16, ← hji18] <;> (first | rfl | simp)) | (simp [*]; done), by repeat (first | exact Drawn0.refl _ | apply Drawn0.step)⟩
              · rw [if_neg c17] at H
                exact absurd H (by simp)
            · rw [if_neg c15] at H
              have c15b0 : decide (a0 < 4) = false := decide_eq_false c15
              clear c15
              simp only [Option.some.injEq, Prod.mk.injEq] at H
              obtain ⟨rfl, rfl⟩ := H
              go_wp2
              go_ret2
              exact ⟨by first | rfl | (simp; done) | (simp only [← hji7, ← hji9] <;> (first | rfl | simp)) | (simp [*]; done), by repeat (first | exact Drawn0.refl _ | apply Drawn0.step)⟩
          · replace c14 := Bool.eq_false_iff.mpr c14
            subst c14
            have H1 : (some (0, (Go.bits .or .u64 (ji9) (IntKind.u64.wrap (t104))))) = some (r1, r2) := by rw [if_neg (show ¬ (false = true) by decide)] at H; exact H
            clear H
            have H := H1
            clear H1
            simp only [Option.some.injEq, Prod.mk.injEq] at H
            obtain ⟨rfl, rfl⟩ := H
            go_wp2
            go_ret2
            exact ⟨by first | rfl | (simp; done) | (simp only [← hji7, ← hji9] <;> (first | rfl | simp)) | (simp [*]; done), by repeat (first | exact Drawn0.refl _ | apply Drawn0.step)⟩
    · rw [if_neg c8] at H
      exact absurd H (by simp)

/-! ### spec_l06Size: function 86 -/
def spec_l06Size.f (a0 : Int) : Option (Int) := if a0 < 0 then (some (IntKind.u64.wrap (-(IntKind.u64.wrap (a0))))) else (some (IntKind.u64.wrap (a0)))
set_option maxHeartbeats 8000000 in
set_option maxRecDepth 100000 in
theorem spec_l06Size.calls (a0 : Int) (r : Int) (w : World) (h : spec_l06Size.f a0 = some r) :
    Calls Try.prog 86 #[.int .i64 a0] w fun e w' => e = .returned (.int .u64 r) ∧ Drawn0 w w' := by
  have H : (if a0 < 0 then (some (IntKind.u64.wrap (-(IntKind.u64.wrap (a0))))) else (some (IntKind.u64.wrap (a0)))) = some r := h
  clear h
  by_cases c2 : a0 < 0
  · rw [if_pos c2] at H
    have c2b0 : decide (a0 < 0) = true := decide_eq_true c2
    clear c2
    obtain rfl := Option.some.inj H
    go_enter Try.func86, Try.ntmps86
    go_wp2
    go_ret
    exact ⟨by first | rfl | (simp; done) | (simp [*]; done), by repeat (first | exact Drawn0.refl _ | apply Drawn0.step)⟩
  · rw [if_neg c2] at H
    have c2b0 : decide (a0 < 0) = false := decide_eq_false c2
    clear c2
    obtain rfl := Option.some.inj H
    go_enter Try.func86, Try.ntmps86
    go_wp2
    go_ret
    exact ⟨by first | rfl | (simp; done) | (simp [*]; done), by repeat (first | exact Drawn0.refl _ | apply Drawn0.step)⟩

/-! ### spec_l01Divide: function 87 -/
def spec_l01Divide.l0 : Nat → Int → Int → Int → Int → Int → Option (Int × Int)
  | 0, _, _, _, _, _ => none
  | k + 1, x1, x2, x8, x9, x10 => if x10 ≥ 0 then (if 0 ≤ (IntKind.u64.wrap (x10)) then (if (x9 / 9223372036854775808) = 1 then (spec_l01Divide.l0 k x1 x2 (IntKind.u64.wrap ((IntKind.u64.wrap (x8 * 2)) + 1)) (IntKind.u64.wrap ((IntKind.u64.wrap ((IntKind.u64.wrap (x9 * 2)) + (Int.tmod (shr .u64 x1 (IntKind.u64.wrap (x10))) 2))) - x2)) (wrap64 (x10 - 1))) else (if (IntKind.u64.wrap ((IntKind.u64.wrap (x9 * 2)) + (Int.tmod (shr .u64 x1 (IntKind.u64.wrap (x10))) 2))) ≥ x2 then (spec_l01Divide.l0 k x1 x2 (IntKind.u64.wrap ((IntKind.u64.wrap (x8 * 2)) + 1)) (IntKind.u64.wrap ((IntKind.u64.wrap ((IntKind.u64.wrap (x9 * 2)) + (Int.tmod (shr .u64 x1 (IntKind.u64.wrap (x10))) 2))) - x2)) (wrap64 (x10 - 1))) else (spec_l01Divide.l0 k x1 x2 (IntKind.u64.wrap (x8 * 2)) (IntKind.u64.wrap ((IntKind.u64.wrap (x9 * 2)) + (Int.tmod (shr .u64 x1 (IntKind.u64.wrap (x10))) 2))) (wrap64 (x10 - 1))))) else (none)) else (some (x8, x9))
def spec_l01Divide.f (k : Nat) (a0 : Int) (a1 : Int) (a2 : Int) : Option (Int × Int) := spec_l01Divide.l0 k a1 a2 0 a0 63
theorem spec_l01Divide.mono_l : ∀ k, (∀ y0 y1 y2 y3 y4, LeO (spec_l01Divide.l0 k y0 y1 y2 y3 y4) (spec_l01Divide.l0 (k + 1) y0 y1 y2 y3 y4))
  | 0 => fun _ _ _ _ _ r h => by simp [spec_l01Divide.l0] at h
  | k + 1 => by
    have ih0 := spec_l01Divide.mono_l k
    · intro y0 y1 y2 y3 y4
      unfold spec_l01Divide.l0
      repeat' first
      | (with_reducible exact ih0 _ _ _ _ _)
      | (with_reducible exact LeO.refl _)
      | (with_reducible exact LeO.none _)
      | (with_reducible refine LeO.ite ?_ ?_)
      | (with_reducible refine LeO.bind ?_ (fun _ => ?_))
      | exact ih0 _ _ _ _ _
      | exact LeO.none _
      | refine LeO.ite ?_ ?_
      | refine LeO.bind ?_ (fun _ => ?_)
theorem spec_l01Divide.mono : ∀ a0 a1 a2 k, LeO (spec_l01Divide.f k a0 a1 a2) (spec_l01Divide.f (k + 1) a0 a1 a2) := by
  intro a0 a1 a2 k
  have ih0 := spec_l01Divide.mono_l k
  unfold spec_l01Divide.f
  repeat' first
      | (with_reducible exact ih0 _ _ _ _ _)
      | (with_reducible exact LeO.refl _)
      | (with_reducible exact LeO.none _)
      | (with_reducible refine LeO.ite ?_ ?_)
      | (with_reducible refine LeO.bind ?_ (fun _ => ?_))
      | exact ih0 _ _ _ _ _
      | exact LeO.none _
      | refine LeO.ite ?_ ?_
      | refine LeO.bind ?_ (fun _ => ?_)
set_option maxHeartbeats 8000000 in
set_option maxRecDepth 100000 in
theorem spec_l01Divide.calls (k : Nat) (a0 : Int) (a1 : Int) (a2 : Int) (r1 : Int) (r2 : Int) (w : World) (h : spec_l01Divide.f k a0 a1 a2 = some (r1, r2)) :
    Calls Try.prog 87 #[.int .u64 a0, .int .u64 a1, .int .u64 a2] w fun e w' => e = .returned (.tuple #[.int .u64 r1, .int .u64 r2]) ∧ Drawn0 w w' := by
  have H : (spec_l01Divide.l0 k a1 a2 0 a0 63) = some (r1, r2) := h
  clear h
  have H' := Aside0.mk H
  clear H
  go_enter Try.func87, Try.ntmps87
  go_wp2
  go_loopg [8, 9, 10] k (fun kq v8 v9 v10 w' => ∃ (x8_1 : Int) (x9_1 : Int) (x10_1 : Int), v8 = .int .u64 x8_1 ∧ v9 = .int .u64 x9_1 ∧ v10 = .int .i64 x10_1 ∧ Aside0 (spec_l01Divide.l0 kq a1 a2 x8_1 x9_1 x10_1 = some (r1, r2)) ∧ Aside0 (kq ≤ k) ∧ Drawn0 w w')
  case atStart => exact ⟨(0), (a0), (63), (by first | rfl | (simp; done) | (simp [*]; done)), (by first | rfl | (simp; done) | (simp [*]; done)), (by first | rfl | (simp; done) | (simp [*]; done)), H', ⟨Nat.le_refl _⟩, by repeat (first | exact Drawn0.refl _ | apply Drawn0.step)⟩
  case round =>
    clear H'
    try clear p2
    obtain ⟨x8_1, x9_1, x10_1, rfl, rfl, rfl, HA, HK1, ⟨m1, rfl⟩⟩ := hrel
    cases gk with
    | zero => exact absurd HA.out (by simp [spec_l01Divide.l0])
    | succ k1 =>
      have H := HA.out
      clear HA
      simp only [spec_l01Divide.l0] at H
      by_cases c4 : x10_1 ≥ 0
      · rw [if_pos c4] at H
        have c4b0 : decide (0 ≤ x10_1) = true := decide_eq_true c4
        clear c4
        obtain ⟨ji5, hji5⟩ : ∃ j_ : Int, (IntKind.u64.wrap (x10_1)) = j_ := ⟨_, rfl⟩
        replace H : (if 0 ≤ (ji5) then (if (x9_1 / 9223372036854775808) = 1 then (spec_l01Divide.l0 k1 a1 a2 (IntKind.u64.wrap ((IntKind.u64.wrap (x8_1 * 2)) + 1)) (IntKind.u64.wrap ((IntKind.u64.wrap ((IntKind.u64.wrap (x9_1 * 2)) + (Int.tmod (shr .u64 a1 (ji5)) 2))) - a2)) (wrap64 (x10_1 - 1))) else (if (IntKind.u64.wrap ((IntKind.u64.wrap (x9_1 * 2)) + (Int.tmod (shr .u64 a1 (ji5)) 2))) ≥ a2 then (spec_l01Divide.l0 k1 a1 a2 (IntKind.u64.wrap ((IntKind.u64.wrap (x8_1 * 2)) + 1)) (IntKind.u64.wrap ((IntKind.u64.wrap ((IntKind.u64.wrap (x9_1 * 2)) + (Int.tmod (shr .u64 a1 (ji5)) 2))) - a2)) (wrap64 (x10_1 - 1))) else (spec_l01Divide.l0 k1 a1 a2 (IntKind.u64.wrap (x8_1 * 2)) (IntKind.u64.wrap ((IntKind.u64.wrap (x9_1 * 2)) + (Int.tmod (shr .u64 a1 (ji5)) 2))) (wrap64 (x10_1 - 1))))) else (none)) = some (r1, r2) := by first | (rw [hji5] at H; exact H) | (simp only [hji5] at H ⊢; exact H)
        by_cases c6 : 0 ≤ (ji5)
        · rw [if_pos c6] at H
          have c6b0 := eq_true c6
          have c6b1 : decide (0 ≤ (ji5)) = true := decide_eq_true c6
          clear c6
          obtain ⟨ji7, hji7⟩ : ∃ j_ : Int, (shr .u64 a1 (ji5)) = j_ := ⟨_, rfl⟩
          replace H : (if (x9_1 / 9223372036854775808) = 1 then (spec_l01Divide.l0 k1 a1 a2 (IntKind.u64.wrap ((IntKind.u64.wrap (x8_1 * 2)) + 1)) (IntKind.u64.wrap ((IntKind.u64.wrap ((IntKind.u64.wrap (x9_1 * 2)) + (Int.tmod (ji7) 2))) - a2)) (wrap64 (x10_1 - 1))) else (if (IntKind.u64.wrap ((IntKind.u64.wrap (x9_1 * 2)) + (Int.tmod (ji7) 2))) ≥ a2 then (spec_l01Divide.l0 k1 a1 a2 (IntKind.u64.wrap ((IntKind.u64.wrap (x8_1 * 2)) + 1)) (IntKind.u64.wrap ((IntKind.u64.wrap ((IntKind.u64.wrap (x9_1 * 2)) + (Int.tmod (ji7) 2))) - a2)) (wrap64 (x10_1 - 1))) else (spec_l01Divide.l0 k1 a1 a2 (IntKind.u64.wrap (x8_1 * 2)) (IntKind.u64.wrap ((IntKind.u64.wrap (x9_1 * 2)) + (Int.tmod (ji7) 2))) (wrap64 (x10_1 - 1))))) = some (r1, r2) := by first | (rw [hji7] at H; exact H) | (simp only [hji7] at H ⊢; exact H)
          have hji7_ : (a1 / 2 ^ min (ji5).toNat 64) = ji7 := hji7
          have hji7z : (ji5) ≤ 64 → (a1 / 2 ^ (ji5).toNat) = ji7 := shr_small hji7
          by_cases c8 : (x9_1 / 9223372036854775808) = 1
          · rw [if_pos c8] at H
            have c8b0 : ((x9_1 / 9223372036854775808) == 1) = true := beq_iff_eq.mpr c8
            have c8b1 : ((x9_1 / 9223372036854775808) != 1) = false := bne_eq_false_iff_eq.mpr c8
            clear c8
            have H' := Aside0.mk H
            clear H
            go_wp2
            go_roundg k1
            case measure => have := HK1.out; omega
            case rel => (try rw [c8b0]); (try rw [c8b0] at H'); (try rw [c8b1]); (try rw [c8b1] at H'); exact ⟨(IntKind.u64.wrap ((IntKind.u64.wrap (x8_1 * 2)) + 1)), (IntKind.u64.wrap ((IntKind.u64.wrap ((IntKind.u64.wrap (x9_1 * 2)) + (Int.tmod (ji7) 2))) - a2)), (wrap64 (x10_1 - 1)), (by first | rfl | (simp; done) | (simp [*]; done)), (by first | rfl | (simp; done) | (simp only [← hji7] <;> (first | rfl | simp)) | (simp [*]; done)), (by first | rfl | (simp; done) | (simp [*]; done)), H', ⟨by have := HK1.out; omega⟩, by repeat (first | exact Drawn0.refl _ | apply Drawn0.step)⟩
          · rw [if_neg c8] at H
            have c8b0 : ((x9_1 / 9223372036854775808) == 1) = false := beq_eq_false_iff_ne.mpr c8
            have c8b1 : ((x9_1 / 9223372036854775808) != 1) = true := bne_iff_ne.mpr c8
            by_cases c9 : (IntKind.u64.wrap ((IntKind.u64.wrap (x9_1 * 2)) + (Int.tmod (ji7) 2))) ≥ a2
            · rw [if_pos c9] at H
              have c9b0 : decide (a2 ≤ (IntKind.u64.wrap ((IntKind.u64.wrap (x9_1 * 2)) + (Int.tmod (ji7) 2)))) = true := decide_eq_true c9
              clear c9
              have H' := Aside0.mk H
              clear H
              go_wp2
              go_roundg k1
              case measure => have := HK1.out; omega
              case rel => (try rw [c8b0]); (try rw [c8b0] at H'); (try rw [c8b1]); (try rw [c8b1] at H'); exact ⟨(IntKind.u64.wrap ((IntKind.u64.wrap (x8_1 * 2)) + 1)), (IntKind.u64.wrap ((IntKind.u64.wrap ((IntKind.u64.wrap (x9_1 * 2)) + (Int.tmod (ji7) 2))) - a2)), (wrap64 (x10_1 - 1)), (by first | rfl | (simp; done) | (simp [*]; done)), (by first | rfl | (simp; done) | (simp only [← hji7] <;> (first | rfl | simp)) | (simp [*]; done)), (by first | rfl | (simp; done) | (simp [*]; done)), H', ⟨by have := HK1.out; omega⟩, by repeat (first | exact Drawn0.refl _ | apply Drawn0.step)⟩
            · rw [if_neg c9] at H
              have c9b0 : decide (a2 ≤ (IntKind.u64.wrap ((IntKind.u64.wrap (x9_1 * 2)) + (Int.tmod (ji7) 2)))) = false := decide_eq_false c9
              clear c9
              have H' := Aside0.mk H
              clear H
              go_wp2
              go_roundg k1
              case measure => have := HK1.out; omega
              case rel => (try rw [c8b0]); (try rw [c8b0] at H'); (try rw [c8b1]); (try rw [c8b1] at H'); exact ⟨(IntKind.u64.wrap (x8_1 * 2)), (IntKind.u64.wrap ((IntKind.u64.wrap (x9_1 * 2)) + (Int.tmod (ji7) 2))), (wrap64 (x10_1 - 1)), (by first | rfl | (simp; done) | (simp [*]; done)), (by first | rfl | (simp; done) | (simp only [← hji7] <;> (first | rfl | simp)) | (simp [*]; done)), (by first | rfl | (simp; done) | (simp [*]; done)), H', ⟨by have := HK1.out; omega⟩, by repeat (first | exact Drawn0.refl _ | apply Drawn0.step)⟩
        · rw [if_neg c6] at H
          exact absurd H (by simp)
      · rw [if_neg c4] at H
        have c4b0 : decide (0 ≤ x10_1) = false := decide_eq_false c4
        clear c4
        simp only [Option.some.injEq, Prod.mk.injEq] at H
        obtain ⟨rfl, rfl⟩ := H
        go_wp2
        go_ret2
        exact ⟨by first | rfl | (simp; done) | (simp [*]; done), by repeat (first | exact Drawn0.refl _ | apply Drawn0.step)⟩

end Go.Proofs.Ytdljhgmgpnpfiaa.PFnExactDivide
