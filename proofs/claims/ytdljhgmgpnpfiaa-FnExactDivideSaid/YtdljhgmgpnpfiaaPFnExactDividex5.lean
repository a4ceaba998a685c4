-- Written for this claim by the session's own program, out of the translation. Not trusted: Lean checks it.
import Derived.Test.YtdljhgmgpnpfiaaPFnExactDividex0
import Derived.Test.YtdljhgmgpnpfiaaPFnExactDividex2
import Derived.Test.YtdljhgmgpnpfiaaPFnExactDividex4
namespace Go.Proofs.Ytdljhgmgpnpfiaa.PFnExactDivide
open Go.RowKit Go.Proofs.YtdljhgmgpnpfiaaW.PrintWords Go.Proofs.YtdljhgmgpnpfiaaW.PrintLast Go.Proofs.YtdljhgmgpnpfiaaW.PrintMore
attribute [local go_sem] max2_int min2_int max_two min_two max_three min_three max_four min_four   -- for this text's walks alone
set_option linter.unusedVariables false
set_option linter.unusedSimpArgs false

/-! ### impl_divide: function 57 -/
mutual
def impl_divide.j0 : Nat → Int → Int → Int → Int → Bool → Option (Int × Int × Bool)
  | 0, _, _, _, _, _ => none
  | k + 1, x1, x2, x3, x4, x13 => if x13 = true then (impl_divide.j1 k x1 x2 x3 x4 x13 (decide (x2 < 0)) false) else (impl_divide.j1 k x1 x2 x3 x4 x13 false false)
def impl_divide.j1 : Nat → Int → Int → Int → Int → Bool → Bool → Bool → Option (Int × Int × Bool)
  | 0, _, _, _, _, _, _, _ => none
  | k + 1, x1, x2, x3, x4, x13, x14, x15 => if x14 = true then ((impl_opposite.f x2 x3).bind fun bt138 => (impl_divide.j2 k x1 bt138.1 bt138.2 x4 x13 x14 x15)) else (impl_divide.j2 k x1 x2 x3 x4 x13 x14 x15)
def impl_divide.j2 : Nat → Int → Int → Int → Int → Bool → Bool → Bool → Option (Int × Int × Bool)
  | 0, _, _, _, _, _, _, _ => none
  | k + 1, x1, x2, x3, x4, x13, x14, x15 => if x13 = true then (impl_divide.j3 k x1 x2 x3 x4 x13 x14 x15 (decide (x4 < 0))) else (impl_divide.j3 k x1 x2 x3 x4 x13 x14 x15 false)
def impl_divide.j3 : Nat → Int → Int → Int → Int → Bool → Bool → Bool → Bool → Option (Int × Int × Bool)
  | 0, _, _, _, _, _, _, _, _ => none
  | k + 1, x1, x2, x3, x4, x13, x14, x15, x53 => if x53 = true then (impl_divide.j4 k x1 x2 x3 (wrap64 (-x4)) x13 x14 true) else (impl_divide.j4 k x1 x2 x3 x4 x13 x14 x15)
def impl_divide.j4 : Nat → Int → Int → Int → Int → Bool → Bool → Bool → Option (Int × Int × Bool)
  | 0, _, _, _, _, _, _, _ => none
  | k + 1, x1, x2, x3, x4, x13, x14, x15 => (impl_DivideWide.f k x2 x3 x4).bind fun bt140 => (if bt140.2.2 = 0 then (if x13 = true then (if 0 ≤ (wrap64 ((wrap64 (8 * x1)) - 1)) then (if (x14 != x15) = true then ((impl_BelowU.f (shl .i64 1 (wrap64 ((wrap64 (8 * x1)) - 1))) bt140.1).bind fun t146 => (if t146 = true then (some (0, 0, false)) else (impl_divide.j5 k x1 x14 (wrap64 (-bt140.1)) bt140.2.1))) else ((impl_BelowU.f bt140.1 (shl .i64 1 (wrap64 ((wrap64 (8 * x1)) - 1)))).bind fun t147 => (if t147 = true then (impl_divide.j5 k x1 x14 bt140.1 bt140.2.1) else (some (0, 0, false))))) else (none)) else ((impl_zero.f bt140.1 x1).bind fun t143 => ((impl_zero.f bt140.2.1 x1).bind fun t144 => ((impl_zero.f bt140.1 x1).bind fun t145 => (some (t143, t144, (t145 == bt140.1))))))) else (some (0, 0, false)))
def impl_divide.j5 : Nat → Int → Bool → Int → Int → Option (Int × Int × Bool)
  | 0, _, _, _, _ => none
  | k + 1, x1, x14, x16, x17 => if x14 = true then ((impl_zero.f x16 x1).bind fun t148 => ((impl_zero.f (wrap64 (-x17)) x1).bind fun t149 => (some (t148, t149, true)))) else ((impl_zero.f x16 x1).bind fun t150 => ((impl_zero.f x17 x1).bind fun t151 => (some (t150, t151, true))))
end
def impl_divide.f (k : Nat) (a0 : Int) (a1 : Int) (a2 : Int) (a3 : Int) (a4 : Int) : Option (Int × Int × Bool) := (impl_halves.f a1 a2 a3 (a0 == 16)).bind fun bt134 => ((impl_zero.f a4 a1).bind fun t136 => (if a0 = 16 then ((impl_sign.f t136 a1).bind fun t137 => (impl_divide.j0 k a1 bt134.1 bt134.2 t137 (a0 == 16))) else (impl_divide.j0 k a1 bt134.1 bt134.2 t136 (a0 == 16))))
theorem impl_divide.mono_l : ∀ k, (∀ y0 y1 y2 y3 y4, LeO (impl_divide.j0 k y0 y1 y2 y3 y4) (impl_divide.j0 (k + 1) y0 y1 y2 y3 y4)) ∧ (∀ y0 y1 y2 y3 y4 y5 y6, LeO (impl_divide.j1 k y0 y1 y2 y3 y4 y5 y6) (impl_divide.j1 (k + 1) y0 y1 y2 y3 y4 y5 y6)) ∧ (∀ y0 y1 y2 y3 y4 y5 y6, LeO (impl_divide.j2 k y0 y1 y2 y3 y4 y5 y6) (impl_divide.j2 (k + 1) y0 y1 y2 y3 y4 y5 y6)) ∧ (∀ y0 y1 y2 y3 y4 y5 y6 y7, LeO (impl_divide.j3 k y0 y1 y2 y3 y4 y5 y6 y7) (impl_divide.j3 (k + 1) y0 y1 y2 y3 y4 y5 y6 y7)) ∧ (∀ y0 y1 y2 y3 y4 y5 y6, LeO (impl_divide.j4 k y0 y1 y2 y3 y4 y5 y6) (impl_divide.j4 (k + 1) y0 y1 y2 y3 y4 y5 y6)) ∧ (∀ y0 y1 y2 y3, LeO (impl_divide.j5 k y0 y1 y2 y3) (impl_divide.j5 (k + 1) y0 y1 y2 y3))
  | 0 => ⟨fun _ _ _ _ _ r h => by simp [impl_divide.j0] at h, fun _ _ _ _ _ _ _ r h => by simp [impl_divide.j1] at h, fun _ _ _ _ _ _ _ r h => by simp [impl_divide.j2] at h, fun _ _ _ _ _ _ _ _ r h => by simp [impl_divide.j3] at h, fun _ _ _ _ _ _ _ r h => by simp [impl_divide.j4] at h, fun _ _ _ _ r h => by simp [impl_divide.j5] at h⟩
  | k + 1 => by
    obtain ⟨ih0, ih1, ih2, ih3, ih4, ih5⟩ := impl_divide.mono_l k
    refine ⟨?_, ?_, ?_, ?_, ?_, ?_⟩
    · intro y0 y1 y2 y3 y4
      unfold impl_divide.j0
      repeat' first
      | (with_reducible exact ih0 _ _ _ _ _)
      | (with_reducible exact ih1 _ _ _ _ _ _ _)
      | (with_reducible exact ih2 _ _ _ _ _ _ _)
      | (with_reducible exact ih3 _ _ _ _ _ _ _ _)
      | (with_reducible exact ih4 _ _ _ _ _ _ _)
      | (with_reducible exact ih5 _ _ _ _)
      | (with_reducible exact impl_DivideWide.mono _ _ _ _)
      | (with_reducible exact LeO.refl _)
      | (with_reducible exact LeO.none _)
      | (with_reducible refine LeO.ite ?_ ?_)
      | (with_reducible refine LeO.bind ?_ (fun _ => ?_))
      | exact ih0 _ _ _ _ _
      | exact ih1 _ _ _ _ _ _ _
      | exact ih2 _ _ _ _ _ _ _
      | exact ih3 _ _ _ _ _ _ _ _
      | exact ih4 _ _ _ _ _ _ _
      | exact ih5 _ _ _ _
      | exact impl_DivideWide.mono _ _ _ _
      | exact LeO.none _
      | refine LeO.ite ?_ ?_
      | refine LeO.bind ?_ (fun _ => ?_)
    · intro y0 y1 y2 y3 y4 y5 y6
      unfold impl_divide.j1
      repeat' first
      | (with_reducible exact ih0 _ _ _ _ _)
      | (with_reducible exact ih1 _ _ _ _ _ _ _)
      | (with_reducible exact ih2 _ _ _ _ _ _ _)
      | (with_reducible exact ih3 _ _ _ _ _ _ _ _)
      | (with_reducible exact ih4 _ _ _ _ _ _ _)
      | (with_reducible exact ih5 _ _ _ _)
      | (with_reducible exact impl_DivideWide.mono _ _ _ _)
      | (with_reducible exact LeO.refl _)
      | (with_reducible exact LeO.none _)
      | (with_reducible refine LeO.ite ?_ ?_)
      | (with_reducible refine LeO.bind ?_ (fun _ => ?_))
      | exact ih0 _ _ _ _ _
      | exact ih1 _ _ _ _ _ _ _
      | exact ih2 _ _ _ _ _ _ _
      | exact ih3 _ _ _ _ _ _ _ _
      | exact ih4 _ _ _ _ _ _ _
      | exact ih5 _ _ _ _
      | exact impl_DivideWide.mono _ _ _ _
      | exact LeO.none _
      | refine LeO.ite ?_ ?_
      | refine LeO.bind ?_ (fun _ => ?_)
    · intro y0 y1 y2 y3 y4 y5 y6
      unfold impl_divide.j2
      repeat' first
      | (with_reducible exact ih0 _ _ _ _ _)
      | (with_reducible exact ih1 _ _ _ _ _ _ _)
      | (with_reducible exact ih2 _ _ _ _ _ _ _)
      | (with_reducible exact ih3 _ _ _ _ _ _ _ _)
      | (with_reducible exact ih4 _ _ _ _ _ _ _)
      | (with_reducible exact ih5 _ _ _ _)
      | (with_reducible exact impl_DivideWide.mono _ _ _ _)
      | (with_reducible exact LeO.refl _)
      | (with_reducible exact LeO.none _)
      | (with_reducible refine LeO.ite ?_ ?_)
      | (with_reducible refine LeO.bind ?_ (fun _ => ?_))
      | exact ih0 _ _ _ _ _
      | exact ih1 _ _ _ _ _ _ _
      | exact ih2 _ _ _ _ _ _ _
      | exact ih3 _ _ _ _ _ _ _ _
      | exact ih4 _ _ _ _ _ _ _
      | exact ih5 _ _ _ _
      | exact impl_DivideWide.mono _ _ _ _
      | exact LeO.none _
      | refine LeO.ite ?_ ?_
      | refine LeO.bind ?_ (fun _ => ?_)
    · intro y0 y1 y2 y3 y4 y5 y6 y7
      unfold impl_divide.j3
      repeat' first
      | (with_reducible exact ih0 _ _ _ _ _)
      | (with_reducible exact ih1 _ _ _ _ _ _ _)
      | (with_reducible exact ih2 _ _ _ _ _ _ _)
      | (with_reducible exact ih3 _ _ _ _ _ _ _ _)
      | (with_reducible exact ih4 _ _ _ _ _ _ _)
      | (with_reducible exact ih5 _ _ _ _)
      | (with_reducible exact impl_DivideWide.mono _ _ _ _)
      | (with_reducible exact LeO.refl _)
      | (with_reducible exact LeO.none _)
      | (with_reducible refine LeO.ite ?_ ?_)
      | (with_reducible refine LeO.bind ?_ (fun _ => ?_))
      | exact ih0 _ _ _ _ _
      | exact ih1 _ _ _ _ _ _ _
      | exact ih2 _ _ _ _ _ _ _
      | exact ih3 _ _ _ _ _ _ _ _
      | exact ih4 _ _ _ _ _ _ _
      | exact ih5 _ _ _ _
      | exact impl_DivideWide.mono _ _ _ _
      | exact LeO.none _
      | refine LeO.ite ?_ ?_
      | refine LeO.bind ?_ (fun _ => ?_)
    · intro y0 y1 y2 y3 y4 y5 y6
      unfold impl_divide.j4
      repeat' first
      | (with_reducible exact ih0 _ _ _ _ _)
      | (with_reducible exact ih1 _ _ _ _ _ _ _)
      | (with_reducible exact ih2 _ _ _ _ _ _ _)
      | (with_reducible exact ih3 _ _ _ _ _ _ _ _)
      | (with_reducible exact ih4 _ _ _ _ _ _ _)
      | (with_reducible exact ih5 _ _ _ _)
      | (with_reducible exact impl_DivideWide.mono _ _ _ _)
      | (with_reducible exact LeO.refl _)
      | (with_reducible exact LeO.none _)
      | (with_reducible refine LeO.ite ?_ ?_)
      | (with_reducible refine LeO.bind ?_ (fun _ => ?_))
      | exact ih0 _ _ _ _ _
      | exact ih1 _ _ _ _ _ _ _
      | exact ih2 _ _ _ _ _ _ _
      | exact ih3 _ _ _ _ _ _ _ _
      | exact ih4 _ _ _ _ _ _ _
      | exact ih5 _ _ _ _
      | exact impl_DivideWide.mono _ _ _ _
      | exact LeO.none _
      | refine LeO.ite ?_ ?_
      | refine LeO.bind ?_ (fun _ => ?_)
    · intro y0 y1 y2 y3
      unfold impl_divide.j5
      repeat' first
      | (with_reducible exact ih0 _ _ _ _ _)
      | (with_reducible exact ih1 _ _ _ _ _ _ _)
      | (with_reducible exact ih2 _ _ _ _ _ _ _)
      | (with_reducible exact ih3 _ _ _ _ _ _ _ _)
      | (with_reducible exact ih4 _ _ _ _ _ _ _)
      | (with_reducible exact ih5 _ _ _ _)
      | (with_reducible exact impl_DivideWide.mono _ _ _ _)
      | (with_reducible exact LeO.refl _)
      | (with_reducible exact LeO.none _)
      | (with_reducible refine LeO.ite ?_ ?_)
      | (with_reducible refine LeO.bind ?_ (fun _ => ?_))
      | exact ih0 _ _ _ _ _
      | exact ih1 _ _ _ _ _ _ _
      | exact ih2 _ _ _ _ _ _ _
      | exact ih3 _ _ _ _ _ _ _ _
      | exact ih4 _ _ _ _ _ _ _
      | exact ih5 _ _ _ _
      | exact impl_DivideWide.mono _ _ _ _
      | exact LeO.none _
      | refine LeO.ite ?_ ?_
      | refine LeO.bind ?_ (fun _ => ?_)
theorem impl_divide.mono : ∀ a0 a1 a2 a3 a4 k, LeO (impl_divide.f k a0 a1 a2 a3 a4) (impl_divide.f (k + 1) a0 a1 a2 a3 a4) := by
  intro a0 a1 a2 a3 a4 k
  obtain ⟨ih0, ih1, ih2, ih3, ih4, ih5⟩ := impl_divide.mono_l k
  unfold impl_divide.f
  repeat' first
      | (with_reducible exact ih0 _ _ _ _ _)
      | (with_reducible exact ih1 _ _ _ _ _ _ _)
      | (with_reducible exact ih2 _ _ _ _ _ _ _)
      | (with_reducible exact ih3 _ _ _ _ _ _ _ _)
      | (with_reducible exact ih4 _ _ _ _ _ _ _)
      | (with_reducible exact ih5 _ _ _ _)
      | (with_reducible exact impl_DivideWide.mono _ _ _ _)
      | (with_reducible exact LeO.refl _)
      | (with_reducible exact LeO.none _)
      | (with_reducible refine LeO.ite ?_ ?_)
      | (with_reducible refine LeO.bind ?_ (fun _ => ?_))
      | exact ih0 _ _ _ _ _
      | exact ih1 _ _ _ _ _ _ _
      | exact ih2 _ _ _ _ _ _ _
      | exact ih3 _ _ _ _ _ _ _ _
      | exact ih4 _ _ _ _ _ _ _
      | exact ih5 _ _ _ _
      | exact impl_DivideWide.mono _ _ _ _
      | exact LeO.none _
      | refine LeO.ite ?_ ?_
      | refine LeO.bind ?_ (fun _ => ?_)
set_option maxHeartbeats 8000000 in
set_option maxRecDepth 100000 in
theorem impl_divide.calls (k : Nat) (a0 : Int) (a1 : Int) (a2 : Int) (a3 : Int) (a4 : Int) (r1 : Int) (r2 : Int) (r3 : Bool) (w : World) (h : impl_divide.f k a0 a1 a2 a3 a4 = some (r1, r2, r3)) :
    Calls Try.prog 57 #[.int .i64 a0, .int .i64 a1, .int .i64 a2, .int .i64 a3, .int .i64 a4] w fun e w' => e = .returned (.tuple #[.int .i64 r1, .int .i64 r2, .bool r3]) ∧ Drawn0 w w' := by
  have H : ((impl_halves.f a1 a2 a3 (a0 == 16)).bind fun bt134 => ((impl_zero.f a4 a1).bind fun t136 => (if a0 = 16 then ((impl_sign.f t136 a1).bind fun t137 => (impl_divide.j0 k a1 bt134.1 bt134.2 t137 (a0 == 16))) else (impl_divide.j0 k a1 bt134.1 bt134.2 t136 (a0 == 16))))) = some (r1, r2, r3) := h
  clear h
  replace H := Option.bind_eq_some_iff.mp H
  obtain ⟨⟨t134, t135⟩, A60, H⟩ := H
  replace H : ((impl_zero.f a4 a1).bind fun t136 => (if a0 = 16 then ((impl_sign.f t136 a1).bind fun t137 => (impl_divide.j0 k a1 t134 t135 t137 (a0 == 16))) else (impl_divide.j0 k a1 t134 t135 t136 (a0 == 16)))) = some (r1, r2, r3) := H
  have A6 := Aside0.mk A60
  clear A60
  replace H := Option.bind_eq_some_iff.mp H
  obtain ⟨t136, A70, H⟩ := H
  replace H : (if a0 = 16 then ((impl_sign.f t136 a1).bind fun t137 => (impl_divide.j0 k a1 t134 t135 t137 (a0 == 16))) else (impl_divide.j0 k a1 t134 t135 t136 (a0 == 16))) = some (r1, r2, r3) := H
  have A7 := Aside0.mk A70
  clear A70
  have HC8 := Aside0.mk H
  clear H
  go_enter Try.func57, Try.ntmps57
  go_upto_if 33 with (first | ((with_reducible refine gate_callee (f := 88) rfl ?_); refine goesL_ (some 27) rfl rfl Try.func88 (by kernel_rfl) rfl #[.int .i64 a1, .int .i64 a2, .int .i64 a3, .bool (a0 == 16)] rfl (by (try simp only [List.map_toArray, List.map_cons, List.map_nil]); first | done | rfl | (simp only [List.length_drop, List.length_take]; rfl)) ?_; (with_reducible refine (impl_halves.calls a1 a2 a3 (a0 == 16) t134 t135 _ A6.out).mono ?_); rintro e w' ⟨rfl, ⟨nd, rfl⟩⟩; refine ⟨_, rfl, ?_⟩) | ((with_reducible refine gate_callee (f := 70) rfl ?_); refine goesL_ (some 32) rfl rfl Try.func70 (by kernel_rfl) rfl #[.int .i64 a4, .int .i64 a1] rfl (by (try simp only [List.map_toArray, List.map_cons, List.map_nil]); first | done | rfl | (simp only [List.length_drop, List.length_take]; rfl)) ?_; (with_reducible refine (impl_zero.calls a4 a1 t136 _ A7.out).mono ?_); rintro e w' ⟨rfl, ⟨nd, rfl⟩⟩; refine ⟨_, rfl, ?_⟩))
  (try simp only [Act.put, List.setIfInBounds_toArray, List.set_cons_zero, List.set_cons_succ])
  go_cut [4] (fun v4 wc => ∃ (kq : Nat) (x4_7 : Int), v4 = .int .i64 x4_7 ∧ Aside0 (impl_divide.j0 kq a1 t134 t135 x4_7 (a0 == 16) = some (r1, r2, r3)) ∧ Aside0 (kq ≤ k) ∧ Drawn0 w wc)
  case first =>
    have H := HC8.out
    clear HC8
    by_cases c9 : a0 = 16
    · rw [if_pos c9] at H
      have c9b0 : (a0 == 16) = true := beq_iff_eq.mpr c9
      have c9b1 : (a0 != 16) = false := bne_eq_false_iff_eq.mpr c9
      clear c9
      (first | rw [c9b0] | (simp only [i64_w, i32_w]; rw [c9b0]) | skip)
      replace H := Option.bind_eq_some_iff.mp H
      obtain ⟨t137, A100, H⟩ := H
      replace H : (impl_divide.j0 k a1 t134 t135 t137 (a0 == 16)) = some (r1, r2, r3) := H
      have A10 := Aside0.mk A100
      clear A100
      have H' := Aside0.mk H
      clear H
      go_wp2_with (first | ((with_reducible refine gate_callee (f := 69) rfl ?_); refine goesL_ (some 36) rfl rfl Try.func69 (by kernel_rfl) rfl #[.int .i64 t136, .int .i64 a1] rfl (by (try simp only [List.map_toArray, List.map_cons, List.map_nil]); first | done | rfl | (simp only [List.length_drop, List.length_take]; rfl)) ?_; (with_reducible refine (impl_sign.calls t136 a1 t137 _ A10.out).mono ?_); rintro e w' ⟨rfl, ⟨nd, rfl⟩⟩; refine ⟨_, rfl, ?_⟩))
      (first | go_meet | ((try simp only [c9b0] at *); (try simp only [c9b1] at *); go_meet))
      case rel => (try rw [c9b0]); (try rw [c9b0] at H'); (try rw [c9b1]); (try rw [c9b1] at H'); exact ⟨_, (t137), (by first | rfl | (simp; done) | (simp [*]; done)), H', ⟨by first | omega | exact Nat.le_refl _⟩, by repeat (first | exact Drawn0.refl _ | apply Drawn0.step)⟩
    · rw [if_neg c9] at H
      have c9b0 : (a0 == 16) = false := beq_eq_false_iff_ne.mpr c9
      have c9b1 : (a0 != 16) = true := bne_iff_ne.mpr c9
      (first | rw [c9b0] | (simp only [i64_w, i32_w]; rw [c9b0]) | skip)
      have H' := Aside0.mk H
      clear H
      go_wp2
      (first | go_meet | ((try simp only [c9b0] at *); (try simp only [c9b1] at *); go_meet))
      case rel => (try rw [c9b0]); (try rw [c9b0] at H'); (try rw [c9b1]); (try rw [c9b1] at H'); exact ⟨_, (t136), (by first | rfl | (simp; done) | (simp [*]; done)), H', ⟨by first | omega | exact Nat.le_refl _⟩, by repeat (first | exact Drawn0.refl _ | apply Drawn0.step)⟩
  case rest =>
    clear HC8
    try clear p2
    try clear c5
    try clear c6
    try clear c7
    try clear c8
    try clear c9
    try clear c9b0
    try clear c9b1
    obtain ⟨kq, x4_7, rfl, HA, HJ7, ⟨mc7, rfl⟩⟩ := hcut
    cases kq with
    | zero => exact absurd HA.out (by simp [impl_divide.j0])
    | succ kj7 =>
      have H := HA.out
      clear HA
      simp only [impl_divide.j0] at H
      have HC11 := Aside0.mk H
      clear H
      go_upto_region 6 with (fail)
      go_cut [14, 15] (fun v14 v15 wc => ∃ (kq : Nat) (x14_10 : Bool) (x15_10 : Bool), v14 = .bool x14_10 ∧ v15 = .bool x15_10 ∧ Aside0 (impl_divide.j1 kq a1 t134 t135 x4_7 (a0 == 16) x14_10 x15_10 = some (r1, r2, r3)) ∧ Aside0 (kq ≤ kj7) ∧ Drawn0 w wc)
      case first =>
        have H := HC11.out
        clear HC11
        by_cases c12 : (a0 == 16) = true
        · rw [if_pos c12] at H
          have c12b0 : (a0 == 16) = true := c12
          (try (have c12b1 : decide (a0 = 16) = true := by simpa using c12))
          (try (have c12b2 : (a0 == 16) = true := by simpa using c12))
          clear c12
          (first | rw [c12b0] | (simp only [i64_w, i32_w]; rw [c12b0]) | skip)
          have H' := Aside0.mk H
          clear H
          go_wp2
          (first | go_meet | ((try simp only [c9b0] at *); (try simp only [c9b1] at *); (try simp only [c12b0] at *); go_meet))
          case rel => (try rw [c9b0]); (try rw [c9b0] at H'); (try rw [c9b1]); (try rw [c9b1] at H'); (try rw [c12b0]); (try rw [c12b0] at H'); exact ⟨_, (decide (t134 < 0)), (false), (by first | rfl | (simp; done) | (simp [*]; done)), (by first | rfl | (simp; done) | (simp [*]; done)), H', ⟨by have := HJ7.out; first | omega | exact Nat.le_refl _⟩, by repeat (first | exact Drawn0.refl _ | apply Drawn0.step)⟩
        · rw [if_neg c12] at H
          have c12b0 : (a0 == 16) = false := by simpa using c12
          (try (have c12b1 : decide (a0 = 16) = false := by simpa using c12))
          (try (have c12b2 : (a0 == 16) = false := by simpa using c12))
          (try (have c12b3 : ¬ (a0 = 16) := by simpa using c12))
          clear c12
          (first | rw [c12b0] | (simp only [i64_w, i32_w]; rw [c12b0]) | skip)
          have H' := Aside0.mk H
          clear H
          go_wp2
          (first | go_meet | ((try simp only [c9b0] at *); (try simp only [c9b1] at *); (try simp only [c12b0] at *); go_meet))
          case rel => (try rw [c9b0]); (try rw [c9b0] at H'); (try rw [c9b1]); (try rw [c9b1] at H'); (try rw [c12b0]); (try rw [c12b0] at H'); exact ⟨_, (false), (false), (by first | rfl | (simp; done) | (simp [*]; done)), (by first | rfl | (simp; done) | (simp [*]; done)), H', ⟨by have := HJ7.out; first | omega | exact Nat.le_refl _⟩, by repeat (first | exact Drawn0.refl _ | apply Drawn0.step)⟩
      case rest =>
        clear HC11
        try clear c1
        try clear p2
        try clear c5
        try clear c6
        try clear c7
        try clear c8
        try clear c9
        try clear c9b0
        try clear c9b1
        try clear c12
        try clear c12b0
        try clear c12b1
        try clear c12b2
        try clear p2
        obtain ⟨kq, x14_10, x15_10, rfl, rfl, HA, HJ10, ⟨mc10, rfl⟩⟩ := hcut
        cases kq with
        | zero => exact absurd HA.out (by simp [impl_divide.j1])
        | succ kj10 =>
          have H := HA.out
          clear HA
          simp only [impl_divide.j1] at H
          have HC13 := Aside0.mk H
          clear H
          go_upto_if 42 with (fail)
          go_cut [2, 3] (fun v2 v3 wc => ∃ (kq : Nat) (x2_12 : Int) (x3_12 : Int), v2 = .int .i64 x2_12 ∧ v3 = .int .i64 x3_12 ∧ Aside0 (impl_divide.j2 kq a1 x2_12 x3_12 x4_7 (a0 == 16) x14_10 x15_10 = some (r1, r2, r3)) ∧ Aside0 (kq ≤ kj10) ∧ Drawn0 w wc)
          case first =>
            have H := HC13.out
            clear HC13
            by_cases c14 : x14_10 = true
            · subst c14
              have H1 : ((impl_opposite.f t134 t135).bind fun bt138 => (impl_divide.j2 kj10 a1 bt138.1 bt138.2 x4_7 (a0 == 16) true x15_10)) = some (r1, r2, r3) := by rw [if_pos rfl] at H; exact H
              clear H
              have H := H1
              clear H1
              replace H := Option.bind_eq_some_iff.mp H
              obtain ⟨⟨t138, t139⟩, A150, H⟩ := H
              replace H : (impl_divide.j2 kj10 a1 t138 t139 x4_7 (a0 == 16) true x15_10) = some (r1, r2, r3) := H
              have A15 := Aside0.mk A150
              clear A150
              have H' := Aside0.mk H
              clear H
              go_wp2_with (first | ((with_reducible refine gate_callee (f := 89) rfl ?_); refine goesL_ (some 46) rfl rfl Try.func89 (by kernel_rfl) rfl #[.int .i64 t134, .int .i64 t135] rfl (by (try simp only [List.map_toArray, List.map_cons, List.map_nil]); first | done | rfl | (simp only [List.length_drop, List.length_take]; rfl)) ?_; (with_reducible refine (impl_opposite.calls t134 t135 t138 t139 _ A15.out).mono ?_); rintro e w' ⟨rfl, ⟨nd, rfl⟩⟩; refine ⟨_, rfl, ?_⟩))
              (first | go_meet | ((try simp only [c9b0] at *); (try simp only [c9b1] at *); (try simp only [c12b0] at *); go_meet))
              case rel => (try rw [c9b0]); (try rw [c9b0] at H'); (try rw [c9b1]); (try rw [c9b1] at H'); (try rw [c12b0]); (try rw [c12b0] at H'); exact ⟨_, (t138), (t139), (by first | rfl | (simp; done) | (simp [*]; done)), (by first | rfl | (simp; done) | (simp [*]; done)), H', ⟨by have := HJ7.out; have := HJ10.out; first | omega | exact Nat.le_refl _⟩, by repeat (first | exact Drawn0.refl _ | apply Drawn0.step)⟩
            · replace c14 := Bool.eq_false_iff.mpr c14
              subst c14
              have H1 : (impl_divide.j2 kj10 a1 t134 t135 x4_7 (a0 == 16) false x15_10) = some (r1, r2, r3) := by rw [if_neg (show ¬ (false = true) by decide)] at H; exact H
              clear H
              have H := H1
              clear H1
              have H' := Aside0.mk H
              clear H
              go_wp2
              (first | go_meet | ((try simp only [c9b0] at *); (try simp only [c9b1] at *); (try simp only [c12b0] at *); go_meet))
              case rel => (try rw [c9b0]); (try rw [c9b0] at H'); (try rw [c9b1]); (try rw [c9b1] at H'); (try rw [c12b0]); (try rw [c12b0] at H'); exact ⟨_, (t134), (t135), (by first | rfl | (simp; done) | (simp [*]; done)), (by first | rfl | (simp; done) | (simp [*]; done)), H', ⟨by have := HJ7.out; have := HJ10.out; first | omega | exact Nat.le_refl _⟩, by repeat (first | exact Drawn0.refl _ | apply Drawn0.step)⟩
          case rest =>
            clear HC13
            try clear c1
            try clear p2
            try clear c5
            try clear c6
            try clear c7
            try clear c8
            try clear c9
            try clear c9b0
            try clear c9b1
            try clear c10
            try clear c12
            try clear c12b0
            try clear c12b1
            try clear c12b2
            try clear c14
            try clear p2
            obtain ⟨kq, x2_12, x3_12, rfl, rfl, HA, HJ12, ⟨mc12, rfl⟩⟩ := hcut
            cases kq with
            | zero => exact absurd HA.out (by simp [impl_divide.j2])
            | succ kj12 =>
              have H := HA.out
              clear HA
              simp only [impl_divide.j2] at H
              have HC16 := Aside0.mk H
              clear H
              go_upto_region 9 with (fail)
              go_cut [53] (fun v53 wc => ∃ (kq : Nat) (x53_15 : Bool), v53 = .bool x53_15 ∧ Aside0 (impl_divide.j3 kq a1 x2_12 x3_12 x4_7 (a0 == 16) x14_10 x15_10 x53_15 = some (r1, r2, r3)) ∧ Aside0 (kq ≤ kj12) ∧ Drawn0 w wc)
              case first =>
                have H := HC16.out
                clear HC16
                by_cases c17 : (a0 == 16) = true
                · rw [if_pos c17] at H
                  have c17b0 : (a0 == 16) = true := c17
                  (try (have c17b1 : decide (a0 = 16) = true := by simpa using c17))
                  (try (have c17b2 : (a0 == 16) = true := by simpa using c17))
                  clear c17
                  (first | rw [c17b0] | (simp only [i64_w, i32_w]; rw [c17b0]) | skip)
                  have H' := Aside0.mk H
                  clear H
                  go_wp2
                  (first | go_meet | ((try simp only [c9b0] at *); (try simp only [c9b1] at *); (try simp only [c12b0] at *); (try simp only [c17b0] at *); go_meet))
                  case rel => (try rw [c9b0]); (try rw [c9b0] at H'); (try rw [c9b1]); (try rw [c9b1] at H'); (try rw [c12b0]); (try rw [c12b0] at H'); (try rw [c17b0]); (try rw [c17b0] at H'); exact ⟨_, (decide (x4_7 < 0)), (by first | rfl | (simp; done) | (simp [*]; done)), H', ⟨by have := HJ7.out; have := HJ10.out; have := HJ12.out; first | omega | exact Nat.le_refl _⟩, by repeat (first | exact Drawn0.refl _ | apply Drawn0.step)⟩
                · rw [if_neg c17] at H
                  have c17b0 : (a0 == 16) = false := by simpa using c17
                  (try (have c17b1 : decide (a0 = 16) = false := by simpa using c17))
                  (try (have c17b2 : (a0 == 16) = false := by simpa using c17))
                  (try (have c17b3 : ¬ (a0 = 16) := by simpa using c17))
                  clear c17
                  (first | rw [c17b0] | (simp only [i64_w, i32_w]; rw [c17b0]) | skip)
                  have H' := Aside0.mk H
                  clear H
                  go_wp2
                  (first | go_meet | ((try simp only [c9b0] at *); (try simp only [c9b1] at *); (try simp only [c12b0] at *); (try simp only [c17b0] at *); go_meet))
                  case rel => (try rw [c9b0]); (try rw [c9b0] at H'); (try rw [c9b1]); (try rw [c9b1] at H'); (try rw [c12b0]); (try rw [c12b0] at H'); (try rw [c17b0]); (try rw [c17b0] at H'); exact ⟨_, (false), (by first | rfl | (simp; done) | (simp [*]; done)), H', ⟨by have := HJ7.out; have := HJ10.out; have := HJ12.out; first | omega | exact Nat.le_refl _⟩, by repeat (first | exact Drawn0.refl _ | apply Drawn0.step)⟩
              case rest =>
                clear HC16
                try clear c1
                try clear p2
                try clear c5
                try clear c6
                try clear c7
                try clear c8
                try clear c9
                try clear c9b0
                try clear c9b1
                try clear c10
                try clear c12
                try clear c12b0
                try clear c12b1
                try clear c12b2
                try clear c14
                try clear c17
                try clear c17b0
                try clear c17b1
                try clear c17b2
                try clear p2
                obtain ⟨kq, x53_15, rfl, HA, HJ15, ⟨mc15, rfl⟩⟩ := hcut
                cases kq with
                | zero => exact absurd HA.out (by simp [impl_divide.j3])
                | succ kj15 =>
                  have H := HA.out
                  clear HA
                  simp only [impl_divide.j3] at H
                  have HC18 := Aside0.mk H
                  clear H
                  go_upto_if 53 with (fail)
                  go_cut [4, 15] (fun v4 v15 wc => ∃ (kq : Nat) (x4_17 : Int) (x15_17 : Bool), v4 = .int .i64 x4_17 ∧ v15 = .bool x15_17 ∧ Aside0 (impl_divide.j4 kq a1 x2_12 x3_12 x4_17 (a0 == 16) x14_10 x15_17 = some (r1, r2, r3)) ∧ Aside0 (kq ≤ kj15) ∧ Drawn0 w wc)
                  case first =>
                    have H := HC18.out
                    clear HC18
                    by_cases c19 : x53_15 = true
                    · subst c19
                      have H1 : (impl_divide.j4 kj15 a1 x2_12 x3_12 (wrap64 (-x4_7)) (a0 == 16) x14_10 true) = some (r1, r2, r3) := by rw [if_pos rfl] at H; exact H
                      clear H
                      have H := H1
                      clear H1
                      have H' := Aside0.mk H
                      clear H
                      go_wp2
                      (first | go_meet | ((try simp only [c9b0] at *); (try simp only [c9b1] at *); (try simp only [c12b0] at *); (try simp only [c17b0] at *); go_meet))
                      case rel => (try rw [c9b0]); (try rw [c9b0] at H'); (try rw [c9b1]); (try rw [c9b1] at H'); (try rw [c12b0]); (try rw [c12b0] at H'); (try rw [c17b0]); (try rw [c17b0] at H'); exact ⟨_, (wrap64 (-x4_7)), (true), (by first | rfl | (simp; done) | (simp [*]; done)), (by first | rfl | (simp; done) | (simp [*]; done)), H', ⟨by have := HJ7.out; have := HJ10.out; have := HJ12.out; have := HJ15.out; first | omega | exact Nat.le_refl _⟩, by repeat (first | exact Drawn0.refl _ | apply Drawn0.step)⟩
                    · replace c19 := Bool.eq_false_iff.mpr c19
                      subst c19
                      have H1 : (impl_divide.j4 kj15 a1 x2_12 x3_12 x4_7 (a0 == 16) x14_10 x15_10) = some (r1, r2, r3) := by rw [if_neg (show ¬ (false = true) by decide)] at H; exact H
                      clear H
                      have H := H1
                      clear H1
                      have H' := Aside0.mk H
                      clear H
                      go_wp2
                      (first | go_meet | ((try simp only [c9b0] at *); (try simp only [c9b1] at *); (try simp only [c12b0] at *); (try simp only [c17b0] at *); go_meet))
                      case rel => (try rw [c9b0]); (try rw [c9b0] at H'); (try rw [c9b1]); (try rw [c9b1] at H'); (try rw [c12b0]); (try rw [c12b0] at H'); (try rw [c17b0]); (try rw [c17b0] at H'); exact ⟨_, (x4_7), (x15_10), (by first | rfl | (simp; done) | (simp [*]; done)), (by first | rfl | (simp; done) | (simp [*]; done)), H', ⟨by have := HJ7.out; have := HJ10.out; have := HJ12.out; have := HJ15.out; first | omega | exact Nat.le_refl _⟩, by repeat (first | exact Drawn0.refl _ | apply Drawn0.step)⟩
                  case rest =>
                    clear HC18
                    try clear c1
                    try clear p2
                    try clear c5
                    try clear c6
                    try clear p6
                    try clear c7
                    try clear c8
                    try clear c9
                    try clear c9b0
                    try clear c9b1
                    try clear c10
                    try clear c12
                    try clear c12b0
                    try clear c12b1
                    try clear c12b2
                    try clear c14
                    try clear c15
                    try clear c17
                    try clear c17b0
                    try clear c17b1
                    try clear c17b2
                    try clear c19
                    try clear p2
                    obtain ⟨kq, x4_17, x15_17, rfl, rfl, HA, HJ17, ⟨mc17, rfl⟩⟩ := hcut
                    cases kq with
                    | zero => exact absurd HA.out (by simp [impl_divide.j4])
                    | succ kj17 =>
                      have H := HA.out
                      clear HA
                      simp only [impl_divide.j4] at H
                      replace H := Option.bind_eq_some_iff.mp H
                      obtain ⟨⟨t140, t141, t142⟩, A200, H⟩ := H
                      replace H : (if t142 = 0 then (if (a0 == 16) = true then (if 0 ≤ (wrap64 ((wrap64 (8 * a1)) - 1)) then (if (x14_10 != x15_17) = true then ((impl_BelowU.f (shl .i64 1 (wrap64 ((wrap64 (8 * a1)) - 1))) t140).bind fun t146 => (if t146 = true then (some (0, 0, false)) else (impl_divide.j5 kj17 a1 x14_10 (wrap64 (-t140)) t141))) else ((impl_BelowU.f t140 (shl .i64 1 (wrap64 ((wrap64 (8 * a1)) - 1)))).bind fun t147 => (if t147 = true then (impl_divide.j5 kj17 a1 x14_10 t140 t141) else (some (0, 0, false))))) else (none)) else ((impl_zero.f t140 a1).bind fun t143 => ((impl_zero.f t141 a1).bind fun t144 => ((impl_zero.f t140 a1).bind fun t145 => (some (t143, t144, (t145 == t140))))))) else (some (0, 0, false))) = some (r1, r2, r3) := H
                      have A20 := Aside0.mk A200
                      clear A200
                      by_cases c21 : t142 = 0
                      · rw [if_pos c21] at H
                        have c21b0 : (t142 == 0) = true := beq_iff_eq.mpr c21
                        have c21b1 : (t142 != 0) = false := bne_eq_false_iff_eq.mpr c21
                        clear c21
                        by_cases c22 : (a0 == 16) = true
                        · rw [if_pos c22] at H
                          have c22b0 : (a0 == 16) = true := c22
                          (try (have c22b1 : decide (a0 = 16) = true := by simpa using c22))
                          (try (have c22b2 : (a0 == 16) = true := by simpa using c22))
                          clear c22
                          obtain ⟨ji23, hji23⟩ : ∃ j_ : Int, (wrap64 ((wrap64 (8 * a1)) - 1)) = j_ := ⟨_, rfl⟩
                          replace H : (if 0 ≤ (ji23) then (if (x14_10 != x15_17) = true then ((impl_BelowU.f (shl .i64 1 (ji23)) t140).bind fun t146 => (if t146 = true then (some (0, 0, false)) else (impl_divide.j5 kj17 a1 x14_10 (wrap64 (-t140)) t141))) else ((impl_BelowU.f t140 (shl .i64 1 (ji23))).bind fun t147 => (if t147 = true then (impl_divide.j5 kj17 a1 x14_10 t140 t141) else (some (0, 0, false))))) else (none)) = some (r1, r2, r3) := by first | (rw [hji23] at H; exact H) | (simp only [hji23] at H ⊢; exact H)
                          (try rw [hji23] at A20)
                          have hji23w : (IntKind.i64.wrap ((wrap64 (8 * a1)) - 1)) = ji23 := (i64_w _).trans hji23
                          by_cases c24 : 0 ≤ (ji23)
                          · rw [if_pos c24] at H
                            have c24b0 := eq_true c24
                            have c24b1 : decide (0 ≤ (ji23)) = true := decide_eq_true c24
                            clear c24
                            obtain ⟨ji25, hji25⟩ : ∃ j_ : Int, (shl .i64 1 (ji23)) = j_ := ⟨_, rfl⟩
                            replace H : (if (x14_10 != x15_17) = true then ((impl_BelowU.f (ji25) t140).bind fun t146 => (if t146 = true then (some (0, 0, false)) else (impl_divide.j5 kj17 a1 x14_10 (wrap64 (-t140)) t141))) else ((impl_BelowU.f t140 (ji25)).bind fun t147 => (if t147 = true then (impl_divide.j5 kj17 a1 x14_10 t140 t141) else (some (0, 0, false))))) = some (r1, r2, r3) := by first | (rw [hji25] at H; exact H) | (simp only [hji25] at H ⊢; exact H)
                            (try rw [hji25] at A20)
                            have hji25_ : (IntKind.i64.wrap (1 * 2 ^ min (ji23).toNat 64)) = ji25 := hji25
                            have hji25z : (ji23) ≤ 64 → (IntKind.i64.wrap (1 * 2 ^ (ji23).toNat)) = ji25 := shl_small hji25
                            have hji25u : (IntKind.i64.wrap (2 ^ min (ji23).toNat 64)) = ji25 := by have h_ := hji25_; rw [Int.one_mul] at h_; exact h_
                            have hji25v : (ji23) ≤ 64 → (IntKind.i64.wrap (2 ^ (ji23).toNat)) = ji25 := fun hle_ => by have h_ := hji25z hle_; rw [Int.one_mul] at h_; exact h_
                            have hji25y : (wrap64 (1 * 2 ^ min (ji23).toNat 64)) = ji25 := (i64_w _).symm.trans hji25_
                            have hji25x : (ji23) ≤ 64 → (wrap64 (1 * 2 ^ (ji23).toNat)) = ji25 := fun h_ => (i64_w _).symm.trans (hji25z h_)
                            have HC26 := Aside0.mk H
                            clear H
                            go_upto_if 85 with (first | ((with_reducible refine gate_callee (f := 29) rfl ?_); refine goesL_ (some 60) rfl rfl Try.func29 (by kernel_rfl) rfl #[.int .i64 x2_12, .int .i64 x3_12, .int .i64 x4_17] rfl (by (try simp only [List.map_toArray, List.map_cons, List.map_nil]); first | done | rfl | (simp only [List.length_drop, List.length_take]; rfl)) ?_; (with_reducible refine (impl_DivideWide.calls kj17 x2_12 x3_12 x4_17 t140 t141 t142 _ A20.out).mono ?_); rintro e w' ⟨rfl, ⟨nd, rfl⟩⟩; refine ⟨_, rfl, ?_⟩))
                            (try simp only [Act.put, List.setIfInBounds_toArray, List.set_cons_zero, List.set_cons_succ])
                            go_cut [16] (fun v16 wc => ∃ (kq : Nat) (x16_25 : Int), v16 = .int .i64 x16_25 ∧ Aside0 (impl_divide.j5 kq a1 x14_10 x16_25 t141 = some (r1, r2, r3)) ∧ Aside0 (kq ≤ kj17) ∧ Drawn0 w wc)
                            case first =>
                              have H := HC26.out
                              clear HC26
                              by_cases c27 : (x14_10 != x15_17) = true
                              · rw [if_pos c27] at H
                                have c27b0 : (x14_10 != x15_17) = true := c27
                                (try (have c27b1 : decide (x14_10 = x15_17) = false := by simpa using c27))
                                (try (have c27b2 : (x14_10 == x15_17) = false := by simpa using c27))
                                (try (have c27b3 : ¬ (x14_10 = x15_17) := by simpa using c27))
                                have c27b4 : (!(x14_10 == x15_17)) = true := by simpa using c27
                                clear c27
                                (first | rw [c27b0] | (simp only [i64_w, i32_w]; rw [c27b0]) | skip)
                                replace H := Option.bind_eq_some_iff.mp H
                                obtain ⟨t146, A280, H⟩ := H
                                replace H : (if t146 = true then (some (0, 0, false)) else (impl_divide.j5 kj17 a1 x14_10 (wrap64 (-t140)) t141)) = some (r1, r2, r3) := H
                                have A28 := Aside0.mk A280
                                clear A280
                                by_cases c29 : t146 = true
                                · subst c29
                                  have H1 : (some (0, 0, false)) = some (r1, r2, r3) := by rw [if_pos rfl] at H; exact H
                                  clear H
                                  have H := H1
                                  clear H1
                                  simp only [Option.some.injEq, Prod.mk.injEq] at H
                                  obtain ⟨rfl, rfl, rfl⟩ := H
                                  go_wp2_with (first | ((with_reducible refine gate_callee (f := 30) rfl ?_); refine goesL_ (some 88) rfl rfl Try.func30 (by kernel_rfl) rfl #[.int .i64 ji25, .int .i64 t140] rfl (by (try simp only [List.map_toArray, List.map_cons, List.map_nil]); first | done | (simp only [hji25]; rfl) | rfl | (simp only [List.length_drop, List.length_take]; rfl)) ?_; (with_reducible refine (impl_BelowU.calls ji25 t140 true _ A28.out).mono ?_); rintro e w' ⟨rfl, ⟨nd, rfl⟩⟩; refine ⟨_, rfl, ?_⟩))
                                  all_goals (try exact (Bool.noConfusion (c27b4.symm.trans (by assumption : (!(x14_10 == x15_17)) = false))))
                                  go_ret3
                                  exact ⟨by first | rfl | (simp; done) | (simp only [← hji23, ← hji25] <;> (first | rfl | simp)) | (simp [*]; done), by repeat (first | exact Drawn0.refl _ | apply Drawn0.step)⟩
                                · replace c29 := Bool.eq_false_iff.mpr c29
                                  subst c29
                                  have H1 : (impl_divide.j5 kj17 a1 x14_10 (wrap64 (-t140)) t141) = some (r1, r2, r3) := by rw [if_neg (show ¬ (false = true) by decide)] at H; exact H
                                  clear H
                                  have H := H1
                                  clear H1
                                  have H' := Aside0.mk H
                                  clear H
                                  go_wp2_with (first | ((with_reducible refine gate_callee (f := 30) rfl ?_); refine goesL_ (some 88) rfl rfl Try.func30 (by kernel_rfl) rfl #[.int .i64 ji25, .int .i64 t140] rfl (by (try simp only [List.map_toArray, List.map_cons, List.map_nil]); first | done | (simp only [hji25]; rfl) | rfl | (simp only [List.length_drop, List.length_take]; rfl)) ?_; (with_reducible refine (impl_BelowU.calls ji25 t140 false _ A28.out).mono ?_); rintro e w' ⟨rfl, ⟨nd, rfl⟩⟩; refine ⟨_, rfl, ?_⟩))
                                  all_goals (try exact (Bool.noConfusion (c27b4.symm.trans (by assumption : (!(x14_10 == x15_17)) = false))))
                                  (first | go_meet | ((try simp only [c9b0] at *); (try simp only [c9b1] at *); (try simp only [c12b0] at *); (try simp only [c17b0] at *); (try simp only [c21b0] at *); (try simp only [c21b1] at *); (try simp only [c22b0] at *); (try simp only [c27b0] at *); go_meet))
                                  case rel => (try rw [c9b0]); (try rw [c9b0] at H'); (try rw [c9b1]); (try rw [c9b1] at H'); (try rw [c12b0]); (try rw [c12b0] at H'); (try rw [c17b0]); (try rw [c17b0] at H'); (try rw [c21b0]); (try rw [c21b0] at H'); (try rw [c21b1]); (try rw [c21b1] at H'); (try rw [c22b0]); (try rw [c22b0] at H'); (try rw [c27b0]); (try rw [c27b0] at H'); exact ⟨_, (wrap64 (-t140)), (by first | rfl | (simp; done) | (simp [*]; done)), H', ⟨by have := HJ7.out; have := HJ10.out; have := HJ12.out; have := HJ15.out; have := HJ17.out; first | omega | exact Nat.le_refl _⟩, by repeat (first | exact Drawn0.refl _ | apply Drawn0.step)⟩
                              · rw [if_neg c27] at H
                                have c27b0 : (x14_10 != x15_17) = false := by simpa using c27
                                (try (have c27b1 : decide (x14_10 = x15_17) = true := by simpa using c27))
                                (try (have c27b2 : (x14_10 == x15_17) = true := by simpa using c27))
                                have c27b4 : (!(x14_10 == x15_17)) = false := by simpa using c27
                                clear c27
                                (first | rw [c27b0] | (simp only [i64_w, i32_w]; rw [c27b0]) | skip)
                                replace H := Option.bind_eq_some_iff.mp H
                                obtain ⟨t147, A300, H⟩ := H
                                replace H : (if t147 = true then (impl_divide.j5 kj17 a1 x14_10 t140 t141) else (some (0, 0, false))) = some (r1, r2, r3) := H
                                have A30 := Aside0.mk A300
                                clear A300
                                by_cases c31 : t147 = true
                                · subst c31
                                  have H1 : (impl_divide.j5 kj17 a1 x14_10 t140 t141) = some (r1, r2, r3) := by rw [if_pos rfl] at H; exact H
                                  clear H
                                  have H := H1
                                  clear H1
                                  have H' := Aside0.mk H
                                  clear H
                                  go_wp2_with (first | ((with_reducible refine gate_callee (f := 30) rfl ?_); refine goesL_ (some 93) rfl rfl Try.func30 (by kernel_rfl) rfl #[.int .i64 t140, .int .i64 ji25] rfl (by (try simp only [List.map_toArray, List.map_cons, List.map_nil]); first | done | (simp only [hji25]; rfl) | rfl | (simp only [List.length_drop, List.length_take]; rfl)) ?_; (with_reducible refine (impl_BelowU.calls t140 ji25 true _ A30.out).mono ?_); rintro e w' ⟨rfl, ⟨nd, rfl⟩⟩; refine ⟨_, rfl, ?_⟩))
                                  all_goals (try exact (Bool.noConfusion (c27b4.symm.trans (by assumption : (!(x14_10 == x15_17)) = true))))
                                  (first | go_meet | ((try simp only [c9b0] at *); (try simp only [c9b1] at *); (try simp only [c12b0] at *); (try simp only [c17b0] at *); (try simp only [c21b0] at *); (try simp only [c21b1] at *); (try simp only [c22b0] at *); (try simp only [c27b0] at *); go_meet))
                                  case rel => (try rw [c9b0]); (try rw [c9b0] at H'); (try rw [c9b1]); (try rw [c9b1] at H'); (try rw [c12b0]); (try rw [c12b0] at H'); (try rw [c17b0]); (try rw [c17b0] at H'); (try rw [c21b0]); (try rw [c21b0] at H'); (try rw [c21b1]); (try rw [c21b1] at H'); (try rw [c22b0]); (try rw [c22b0] at H'); (try rw [c27b0]); (try rw [c27b0] at H'); exact ⟨_, (t140), (by first | rfl | (simp; done) | (simp [*]; done)), H', ⟨by have := HJ7.out; have := HJ10.out; have := HJ12.out; have := HJ15.out; have := HJ17.out; first | omega | exact Nat.le_refl _⟩, by repeat (first | exact Drawn0.refl _ | apply Drawn0.step)⟩
                                · replace c31 := Bool.eq_false_iff.mpr c31
                                  subst c31
                                  have H1 : (some (0, 0, false)) = some (r1, r2, r3) := by rw [if_neg (show ¬ (false = true) by decide)] at H; exact H
                                  clear H
                                  have H := H1
                                  clear H1
                                  simp only [Option.some.injEq, Prod.mk.injEq] at H
                                  obtain ⟨rfl, rfl, rfl⟩ := H
                                  go_wp2_with (first | ((with_reducible refine gate_callee (f := 30) rfl ?_); refine goesL_ (some 93) rfl rfl Try.func30 (by kernel_rfl) rfl #[.int .i64 t140, .int .i64 ji25] rfl (by (try simp only [List.map_toArray, List.map_cons, List.map_nil]); first | done | (simp only [hji25]; rfl) | rfl | (simp only [List.length_drop, List.length_take]; rfl)) ?_; (with_reducible refine (impl_BelowU.calls t140 ji25 false _ A30.out).mono ?_); rintro e w' ⟨rfl, ⟨nd, rfl⟩⟩; refine ⟨_, rfl, ?_⟩))
                                  all_goals (try exact (Bool.noConfusion (c27b4.symm.trans (by assumption : (!(x14_10 == x15_17)) = true))))
                                  go_ret3
                                  exact ⟨by first | rfl | (simp; done) | (simp only [← hji23, ← hji25] <;> (first | rfl | simp)) | (simp [*]; done), by repeat (first | exact Drawn0.refl _ | apply Drawn0.step)⟩
                            case rest =>
                              clear HC26
                              try clear c1
                              try clear c2
                              try clear p2
                              try clear c3
                              try clear c5
                              try clear c6
                              try clear p6
                              try clear c7
                              try clear c8
                              try clear c9
                              try clear c9b0
                              try clear c9b1
                              try clear c10
                              try clear c12
                              try clear c12b0
                              try clear c12b1
                              try clear c12b2
                              try clear c14
                              try clear c15
                              try clear c17
                              try clear c17b0
                              try clear c17b1
                              try clear c17b2
                              try clear c19
                              try clear c21
                              try clear c21b0
                              try clear c21b1
                              try clear c22
                              try clear c22b0
                              try clear c22b1
                              try clear c22b2
                              try clear c24
                              try clear c24b0
                              try clear c24b1
                              try clear c27
                              try clear c27b0
                              try clear c27b1
                              try clear c27b2
                              try clear c29
                              try clear c30
                              try clear c31
                              try clear p2
                              try clear p6
                              obtain ⟨kq, x16_25, rfl, HA, HJ25, ⟨mc25, rfl⟩⟩ := hcut
                              cases kq with
                              | zero => exact absurd HA.out (by simp [impl_divide.j5])
                              | succ kj25 =>
                                have H := HA.out
                                clear HA
                                simp only [impl_divide.j5] at H
                                by_cases c32 : x14_10 = true
                                · subst c32
                                  have H1 : ((impl_zero.f x16_25 a1).bind fun t148 => ((impl_zero.f (wrap64 (-t141)) a1).bind fun t149 => (some (t148, t149, true)))) = some (r1, r2, r3) := by rw [if_pos rfl] at H; exact H
                                  clear H
                                  have H := H1
                                  clear H1
                                  replace H := Option.bind_eq_some_iff.mp H
                                  obtain ⟨t148, A330, H⟩ := H
                                  replace H : ((impl_zero.f (wrap64 (-t141)) a1).bind fun t149 => (some (t148, t149, true))) = some (r1, r2, r3) := H
                                  have A33 := Aside0.mk A330
                                  clear A330
                                  replace H := Option.bind_eq_some_iff.mp H
                                  obtain ⟨t149, A340, H⟩ := H
                                  replace H : (some (t148, t149, true)) = some (r1, r2, r3) := H
                                  have A34 := Aside0.mk A340
                                  clear A340
                                  simp only [Option.some.injEq, Prod.mk.injEq] at H
                                  obtain ⟨rfl, rfl, rfl⟩ := H
                                  go_wp2_with (first | ((with_reducible refine gate_callee (f := 70) rfl ?_); refine goesL_ (some 100) rfl rfl Try.func70 (by kernel_rfl) rfl #[.int .i64 x16_25, .int .i64 a1] rfl (by (try simp only [List.map_toArray, List.map_cons, List.map_nil]); first | done | rfl | (simp only [List.length_drop, List.length_take]; rfl)) ?_; (with_reducible refine (impl_zero.calls x16_25 a1 t148 _ A33.out).mono ?_); rintro e w' ⟨rfl, ⟨nd, rfl⟩⟩; refine ⟨_, rfl, ?_⟩) | ((with_reducible refine gate_callee (f := 70) rfl ?_); refine goesL_ (some 103) rfl rfl Try.func70 (by kernel_rfl) rfl #[.int .i64 (wrap64 (-t141)), .int .i64 a1] rfl (by (try simp only [List.map_toArray, List.map_cons, List.map_nil]); first | done | rfl | (simp only [List.length_drop, List.length_take]; rfl)) ?_; (with_reducible refine (impl_zero.calls (wrap64 (-t141)) a1 t149 _ A34.out).mono ?_); rintro e w' ⟨rfl, ⟨nd, rfl⟩⟩; refine ⟨_, rfl, ?_⟩))
                                  go_ret3
                                  exact ⟨by first | rfl | (simp; done) | (simp only [← hji23, ← hji25] <;> (first | rfl | simp)) | (simp [*]; done), by repeat (first | exact Drawn0.refl _ | apply Drawn0.step)⟩
                                · replace c32 := Bool.eq_false_iff.mpr c32
                                  subst c32
                                  have H1 : ((impl_zero.f x16_25 a1).bind fun t150 => ((impl_zero.f t141 a1).bind fun t151 => (some (t150, t151, true)))) = some (r1, r2, r3) := by rw [if_neg (show ¬ (false = true) by decide)] at H; exact H
                                  clear H
                                  have H := H1
                                  clear H1
                                  replace H := Option.bind_eq_some_iff.mp H
                                  obtain ⟨t150, A350, H⟩ := H
                                  replace H : ((impl_zero.f t141 a1).bind fun t151 => (some (t150, t151, true))) = some (r1, r2, r3) := H
                                  have A35 := Aside0.mk A350
                                  clear A350
                                  replace H := Option.bind_eq_some_iff.mp H
                                  obtain ⟨t151, A360, H⟩ := H
                                  replace H : (some (t150, t151, true)) = some (r1, r2, r3) := H
                                  have A36 := Aside0.mk A360
                                  clear A360
                                  simp only [Option.some.injEq, Prod.mk.injEq] at H
                                  obtain ⟨rfl, rfl, rfl⟩ := H
                                  go_wp2_with (first | ((with_reducible refine gate_callee (f := 70) rfl ?_); refine goesL_ (some 100) rfl rfl Try.func70 (by kernel_rfl) rfl #[.int .i64 x16_25, .int .i64 a1] rfl (by (try simp only [List.map_toArray, List.map_cons, List.map_nil]); first | done | rfl | (simp only [List.length_drop, List.length_take]; rfl)) ?_; (with_reducible refine (impl_zero.calls x16_25 a1 t150 _ A35.out).mono ?_); rintro e w' ⟨rfl, ⟨nd, rfl⟩⟩; refine ⟨_, rfl, ?_⟩) | ((with_reducible refine gate_callee (f := 70) rfl ?_); refine goesL_ (some 103) rfl rfl Try.func70 (by kernel_rfl) rfl #[.int .i64 t141, .int .i64 a1] rfl (by (try simp only [List.map_toArray, List.map_cons, List.map_nil]); first | done | rfl | (simp only [List.length_drop, List.length_take]; rfl)) ?_; (with_reducible refine (impl_zero.calls t141 a1 t151 _ A36.out).mono ?_); rintro e w' ⟨rfl, ⟨nd, rfl⟩⟩; refine ⟨_, rfl, ?_⟩))
                                  go_ret3
                                  exact ⟨by first | rfl | (simp; done) | (simp only [← hji23, ← hji25] <;> (first | rfl | simp)) | (simp [*]; done), by repeat (first | exact Drawn0.refl _ | apply Drawn0.step)⟩
                          · rw [if_neg c24] at H
                            exact absurd H (by simp)
                        · rw [if_neg c22] at H
                          have c22b0 : (a0 == 16) = false := by simpa using c22
                          (try (have c22b1 : decide (a0 = 16) = false := by simpa using c22))
                          (try (have c22b2 : (a0 == 16) = false := by simpa using c22))
                          (try (have c22b3 : ¬ (a0 = 16) := by simpa using c22))
                          clear c22
                          replace H := Option.bind_eq_some_iff.mp H
                          obtain ⟨t143, A370, H⟩ := H
                          replace H : ((impl_zero.f t141 a1).bind fun t144 => ((impl_zero.f t140 a1).bind fun t145 => (some (t143, t144, (t145 == t140))))) = some (r1, r2, r3) := H
                          have A37 := Aside0.mk A370
                          clear A370
                          replace H := Option.bind_eq_some_iff.mp H
                          obtain ⟨t144, A380, H⟩ := H
                          replace H : ((impl_zero.f t140 a1).bind fun t145 => (some (t143, t144, (t145 == t140)))) = some (r1, r2, r3) := H
                          have A38 := Aside0.mk A380
                          clear A380
                          replace H := Option.bind_eq_some_iff.mp H
                          obtain ⟨t145, A390, H⟩ := H
                          replace H : (some (t143, t144, (t145 == t140))) = some (r1, r2, r3) := H
                          have A39 := Aside0.mk A390
                          clear A390
                          simp only [Option.some.injEq, Prod.mk.injEq] at H
                          obtain ⟨rfl, rfl, rfl⟩ := H
                          go_wp2_with (first | ((with_reducible refine gate_callee (f := 29) rfl ?_); refine goesL_ (some 60) rfl rfl Try.func29 (by kernel_rfl) rfl #[.int .i64 x2_12, .int .i64 x3_12, .int .i64 x4_17] rfl (by (try simp only [List.map_toArray, List.map_cons, List.map_nil]); first | done | rfl | (simp only [List.length_drop, List.length_take]; rfl)) ?_; (with_reducible refine (impl_DivideWide.calls kj17 x2_12 x3_12 x4_17 t140 t141 t142 _ A20.out).mono ?_); rintro e w' ⟨rfl, ⟨nd, rfl⟩⟩; refine ⟨_, rfl, ?_⟩) | ((with_reducible refine gate_callee (f := 70) rfl ?_); refine goesL_ (some 70) rfl rfl Try.func70 (by kernel_rfl) rfl #[.int .i64 t140, .int .i64 a1] rfl (by (try simp only [List.map_toArray, List.map_cons, List.map_nil]); first | done | rfl | (simp only [List.length_drop, List.length_take]; rfl)) ?_; (with_reducible refine (impl_zero.calls t140 a1 t143 _ A37.out).mono ?_); rintro e w' ⟨rfl, ⟨nd, rfl⟩⟩; refine ⟨_, rfl, ?_⟩) | ((with_reducible refine gate_callee (f := 70) rfl ?_); refine goesL_ (some 73) rfl rfl Try.func70 (by kernel_rfl) rfl #[.int .i64 t141, .int .i64 a1] rfl (by (try simp only [List.map_toArray, List.map_cons, List.map_nil]); first | done | rfl | (simp only [List.length_drop, List.length_take]; rfl)) ?_; (with_reducible refine (impl_zero.calls t141 a1 t144 _ A38.out).mono ?_); rintro e w' ⟨rfl, ⟨nd, rfl⟩⟩; refine ⟨_, rfl, ?_⟩) | ((with_reducible refine gate_callee (f := 70) rfl ?_); refine goesL_ (some 76) rfl rfl Try.func70 (by kernel_rfl) rfl #[.int .i64 t140, .int .i64 a1] rfl (by (try simp only [List.map_toArray, List.map_cons, List.map_nil]); first | done | rfl | (simp only [List.length_drop, List.length_take]; rfl)) ?_; (with_reducible refine (impl_zero.calls t140 a1 t145 _ A39.out).mono ?_); rintro e w' ⟨rfl, ⟨nd, rfl⟩⟩; refine ⟨_, rfl, ?_⟩))
                          go_ret3
                          exact ⟨by first | rfl | (simp; done) | (simp [*]; done), by repeat (first | exact Drawn0.refl _ | apply Drawn0.step)⟩
                      · rw [if_neg c21] at H
                        have c21b0 : (t142 == 0) = false := beq_eq_false_iff_ne.mpr c21
                        have c21b1 : (t142 != 0) = true := bne_iff_ne.mpr c21
                        simp only [Option.some.injEq, Prod.mk.injEq] at H
                        obtain ⟨rfl, rfl, rfl⟩ := H
                        go_wp2_with (first | ((with_reducible refine gate_callee (f := 29) rfl ?_); refine goesL_ (some 60) rfl rfl Try.func29 (by kernel_rfl) rfl #[.int .i64 x2_12, .int .i64 x3_12, .int .i64 x4_17] rfl (by (try simp only [List.map_toArray, List.map_cons, List.map_nil]); first | done | rfl | (simp only [List.length_drop, List.length_take]; rfl)) ?_; (with_reducible refine (impl_DivideWide.calls kj17 x2_12 x3_12 x4_17 t140 t141 t142 _ A20.out).mono ?_); rintro e w' ⟨rfl, ⟨nd, rfl⟩⟩; refine ⟨_, rfl, ?_⟩))
                        go_ret3
                        exact ⟨by first | rfl | (simp; done) | (simp [*]; done), by repeat (first | exact Drawn0.refl _ | apply Drawn0.step)⟩

/-! ### impl_Divide: function 20 -/
def impl_Divide.j0 : Nat → Int → Int → Int → Int → Int → Bool → Option (Int × Int × Int)
  | 0, _, _, _, _, _, _ => none
  | k + 1, x0, x1, x2, x3, x4, x20 => if x20 = true then (some (0, 0, 11)) else ((impl_divide.f k x0 x1 x2 x3 x4).bind fun bt153 => (if bt153.2.2 = true then (some (bt153.1, bt153.2.1, 0)) else (some (0, 0, 16))))
def impl_Divide.f (k : Nat) (a0 : Int) (a1 : Int) (a2 : Int) (a3 : Int) (a4 : Int) : Option (Int × Int × Int) := (impl_isSize.f a1).bind fun t152 => (if t152 = true then (if a0 = 15 then (impl_Divide.j0 k a0 a1 a2 a3 a4 false) else (impl_Divide.j0 k a0 a1 a2 a3 a4 (a0 != 16))) else (some (0, 0, 4)))
theorem impl_Divide.mono_l : ∀ k, (∀ y0 y1 y2 y3 y4 y5, LeO (impl_Divide.j0 k y0 y1 y2 y3 y4 y5) (impl_Divide.j0 (k + 1) y0 y1 y2 y3 y4 y5))
  | 0 => fun _ _ _ _ _ _ r h => by simp [impl_Divide.j0] at h
  | k + 1 => by
    have ih0 := impl_Divide.mono_l k
    · intro y0 y1 y2 y3 y4 y5
      unfold impl_Divide.j0
      repeat' first
      | (with_reducible exact ih0 _ _ _ _ _ _)
      | (with_reducible exact impl_divide.mono _ _ _ _ _ _)
      | (with_reducible exact LeO.refl _)
      | (with_reducible exact LeO.none _)
      | (with_reducible refine LeO.ite ?_ ?_)
      | (with_reducible refine LeO.bind ?_ (fun _ => ?_))
      | exact ih0 _ _ _ _ _ _
      | exact impl_divide.mono _ _ _ _ _ _
      | exact LeO.none _
      | refine LeO.ite ?_ ?_
      | refine LeO.bind ?_ (fun _ => ?_)
theorem impl_Divide.mono : ∀ a0 a1 a2 a3 a4 k, LeO (impl_Divide.f k a0 a1 a2 a3 a4) (impl_Divide.f (k + 1) a0 a1 a2 a3 a4) := by
  intro a0 a1 a2 a3 a4 k
  have ih0 := impl_Divide.mono_l k
  unfold impl_Divide.f
  repeat' first
      | (with_reducible exact ih0 _ _ _ _ _ _)
      | (with_reducible exact impl_divide.mono _ _ _ _ _ _)
      | (with_reducible exact LeO.refl _)
      | (with_reducible exact LeO.none _)
      | (with_reducible refine LeO.ite ?_ ?_)
      | (with_reducible refine LeO.bind ?_ (fun _ => ?_))
      | exact ih0 _ _ _ _ _ _
      | exact impl_divide.mono _ _ _ _ _ _
      | exact LeO.none _
      | refine LeO.ite ?_ ?_
      | refine LeO.bind ?_ (fun _ => ?_)
set_option maxHeartbeats 8000000 in
set_option maxRecDepth 100000 in
theorem impl_Divide.calls (k : Nat) (a0 : Int) (a1 : Int) (a2 : Int) (a3 : Int) (a4 : Int) (r1 : Int) (r2 : Int) (r3 : Int) (w : World) (h : impl_Divide.f k a0 a1 a2 a3 a4 = some (r1, r2, r3)) :
    Calls Try.prog 20 #[.int .i64 a0, .int .i64 a1, .int .i64 a2, .int .i64 a3, .int .i64 a4] w fun e w' => e = .returned (.tuple #[.int .i64 r1, .int .i64 r2, .int .i64 r3]) ∧ Drawn0 w w' := by
  have H : ((impl_isSize.f a1).bind fun t152 => (if t152 = true then (if a0 = 15 then (impl_Divide.j0 k a0 a1 a2 a3 a4 false) else (impl_Divide.j0 k a0 a1 a2 a3 a4 (a0 != 16))) else (some (0, 0, 4)))) = some (r1, r2, r3) := h
  clear h
  replace H := Option.bind_eq_some_iff.mp H
  obtain ⟨t152, A60, H⟩ := H
  replace H : (if t152 = true then (if a0 = 15 then (impl_Divide.j0 k a0 a1 a2 a3 a4 false) else (impl_Divide.j0 k a0 a1 a2 a3 a4 (a0 != 16))) else (some (0, 0, 4))) = some (r1, r2, r3) := H
  have A6 := Aside0.mk A60
  clear A60
  by_cases c7 : t152 = true
  · subst c7
    have H1 : (if a0 = 15 then (impl_Divide.j0 k a0 a1 a2 a3 a4 false) else (impl_Divide.j0 k a0 a1 a2 a3 a4 (a0 != 16))) = some (r1, r2, r3) := by rw [if_pos rfl] at H; exact H
    clear H
    have H := H1
    clear H1
    have HC8 := Aside0.mk H
    clear H
    go_enter Try.func20, Try.ntmps20
    go_upto_region 3 with (first | ((with_reducible refine gate_callee (f := 56) rfl ?_); refine goesL_ (some 18) rfl rfl Try.func56 (by kernel_rfl) rfl #[.int .i64 a1] rfl (by (try simp only [List.map_toArray, List.map_cons, List.map_nil]); first | done | rfl | (simp only [List.length_drop, List.length_take]; rfl)) ?_; (with_reducible refine (impl_isSize.calls a1 true _ A6.out).mono ?_); rintro e w' ⟨rfl, ⟨nd, rfl⟩⟩; refine ⟨_, rfl, ?_⟩))
    (try simp only [Act.put, List.setIfInBounds_toArray, List.set_cons_zero, List.set_cons_succ])
    go_cut [20] (fun v20 wc => ∃ (kq : Nat) (x20_7 : Bool), v20 = .bool x20_7 ∧ Aside0 (impl_Divide.j0 kq a0 a1 a2 a3 a4 x20_7 = some (r1, r2, r3)) ∧ Aside0 (kq ≤ k) ∧ Drawn0 w wc)
    case first =>
      have H := HC8.out
      clear HC8
      by_cases c9 : a0 = 15
      · rw [if_pos c9] at H
        have c9b0 : (a0 == 15) = true := beq_iff_eq.mpr c9
        have c9b1 : (a0 != 15) = false := bne_eq_false_iff_eq.mpr c9
        clear c9
        (first | rw [c9b0] | (simp only [i64_w, i32_w]; rw [c9b0]) | skip)
        have H' := Aside0.mk H
        clear H
        go_wp2
        (first | go_meet | ((try simp only [c9b0] at *); (try simp only [c9b1] at *); go_meet))
        case rel => (try rw [c9b0]); (try rw [c9b0] at H'); (try rw [c9b1]); (try rw [c9b1] at H'); exact ⟨_, (false), (by first | rfl | (simp; done) | (simp [*]; done)), H', ⟨by first | omega | exact Nat.le_refl _⟩, by repeat (first | exact Drawn0.refl _ | apply Drawn0.step)⟩
      · rw [if_neg c9] at H
        have c9b0 : (a0 == 15) = false := beq_eq_false_iff_ne.mpr c9
        have c9b1 : (a0 != 15) = true := bne_iff_ne.mpr c9
        (first | rw [c9b0] | (simp only [i64_w, i32_w]; rw [c9b0]) | skip)
        have H' := Aside0.mk H
        clear H
        go_wp2
        (first | go_meet | ((try simp only [c9b0] at *); (try simp only [c9b1] at *); go_meet))
        case rel => (try rw [c9b0]); (try rw [c9b0] at H'); (try rw [c9b1]); (try rw [c9b1] at H'); exact ⟨_, ((a0 != 16)), (by first | rfl | (simp; done) | (simp [*]; done)), H', ⟨by first | omega | exact Nat.le_refl _⟩, by repeat (first | exact Drawn0.refl _ | apply Drawn0.step)⟩
    case rest =>
      clear HC8
      try clear c2
      try clear p2
      try clear c5
      try clear c7
      try clear c9
      try clear c9b0
      try clear c9b1
      obtain ⟨kq, x20_7, rfl, HA, HJ7, ⟨mc7, rfl⟩⟩ := hcut
      cases kq with
      | zero => exact absurd HA.out (by simp [impl_Divide.j0])
      | succ kj7 =>
        have H := HA.out
        clear HA
        simp only [impl_Divide.j0] at H
        by_cases c10 : x20_7 = true
        · subst c10
          have H1 : (some (0, 0, 11)) = some (r1, r2, r3) := by rw [if_pos rfl] at H; exact H
          clear H
          have H := H1
          clear H1
          simp only [Option.some.injEq, Prod.mk.injEq] at H
          obtain ⟨rfl, rfl, rfl⟩ := H
          go_wp2
          go_ret3
          exact ⟨by first | rfl | (simp; done) | (simp [*]; done), by repeat (first | exact Drawn0.refl _ | apply Drawn0.step)⟩
        · replace c10 := Bool.eq_false_iff.mpr c10
          subst c10
          have H1 : ((impl_divide.f kj7 a0 a1 a2 a3 a4).bind fun bt153 => (if bt153.2.2 = true then (some (bt153.1, bt153.2.1, 0)) else (some (0, 0, 16)))) = some (r1, r2, r3) := by rw [if_neg (show ¬ (false = true) by decide)] at H; exact H
          clear H
          have H := H1
          clear H1
          replace H := Option.bind_eq_some_iff.mp H
          obtain ⟨⟨t153, t154, t155⟩, A110, H⟩ := H
          replace H : (if t155 = true then (some (t153, t154, 0)) else (some (0, 0, 16))) = some (r1, r2, r3) := H
          have A11 := Aside0.mk A110
          clear A110
          by_cases c12 : t155 = true
          · subst c12
            have H1 : (some (t153, t154, 0)) = some (r1, r2, r3) := by rw [if_pos rfl] at H; exact H
            clear H
            have H := H1
            clear H1
            simp only [Option.some.injEq, Prod.mk.injEq] at H
            obtain ⟨rfl, rfl, rfl⟩ := H
            go_wp2_with (first | ((with_reducible refine gate_callee (f := 57) rfl ?_); refine goesL_ (some 33) rfl rfl Try.func57 (by kernel_rfl) rfl #[.int .i64 a0, .int .i64 a1, .int .i64 a2, .int .i64 a3, .int .i64 a4] rfl (by (try simp only [List.map_toArray, List.map_cons, List.map_nil]); first | done | rfl | (simp only [List.length_drop, List.length_take]; rfl)) ?_; (with_reducible refine (impl_divide.calls kj7 a0 a1 a2 a3 a4 t153 t154 true _ A11.out).mono ?_); rintro e w' ⟨rfl, ⟨nd, rfl⟩⟩; refine ⟨_, rfl, ?_⟩))
            go_ret3
            exact ⟨by first | rfl | (simp; done) | (simp [*]; done), by repeat (first | exact Drawn0.refl _ | apply Drawn0.step)⟩
          · replace c12 := Bool.eq_false_iff.mpr c12
            subst c12
            have H1 : (some (0, 0, 16)) = some (r1, r2, r3) := by rw [if_neg (show ¬ (false = true) by decide)] at H; exact H
            clear H
            have H := H1
            clear H1
            simp only [Option.some.injEq, Prod.mk.injEq] at H
            obtain ⟨rfl, rfl, rfl⟩ := H
            go_wp2_with (first | ((with_reducible refine gate_callee (f := 57) rfl ?_); refine goesL_ (some 33) rfl rfl Try.func57 (by kernel_rfl) rfl #[.int .i64 a0, .int .i64 a1, .int .i64 a2, .int .i64 a3, .int .i64 a4] rfl (by (try simp only [List.map_toArray, List.map_cons, List.map_nil]); first | done | rfl | (simp only [List.length_drop, List.length_take]; rfl)) ?_; (with_reducible refine (impl_divide.calls kj7 a0 a1 a2 a3 a4 t153 t154 false _ A11.out).mono ?_); rintro e w' ⟨rfl, ⟨nd, rfl⟩⟩; refine ⟨_, rfl, ?_⟩))
            go_ret3
            exact ⟨by first | rfl | (simp; done) | (simp [*]; done), by repeat (first | exact Drawn0.refl _ | apply Drawn0.step)⟩
  · replace c7 := Bool.eq_false_iff.mpr c7
    subst c7
    have H1 : (some (0, 0, 4)) = some (r1, r2, r3) := by rw [if_neg (show ¬ (false = true) by decide)] at H; exact H
    clear H
    have H := H1
    clear H1
    simp only [Option.some.injEq, Prod.mk.injEq] at H
    obtain ⟨rfl, rfl, rfl⟩ := H
    go_enter Try.func20, Try.ntmps20
    go_wp2_with (first | ((with_reducible refine gate_callee (f := 56) rfl ?_); refine goesL_ (some 18) rfl rfl Try.func56 (by kernel_rfl) rfl #[.int .i64 a1] rfl (by (try simp only [List.map_toArray, List.map_cons, List.map_nil]); first | done | rfl | (simp only [List.length_drop, List.length_take]; rfl)) ?_; (with_reducible refine (impl_isSize.calls a1 false _ A6.out).mono ?_); rintro e w' ⟨rfl, ⟨nd, rfl⟩⟩; refine ⟨_, rfl, ?_⟩))
    go_ret3
    exact ⟨by first | rfl | (simp; done) | (simp [*]; done), by repeat (first | exact Drawn0.refl _ | apply Drawn0.step)⟩

end Go.Proofs.Ytdljhgmgpnpfiaa.PFnExactDivide
