-- Written for this claim by the session's own program, out of the translation. Not trusted: Lean checks it.
import Derived.Test.YtdljhgmgpnpfiaaPFnShiftsx0
import Derived.Test.YtdljhgmgpnpfiaaPFnShiftsx2
namespace Go.Proofs.Ytdljhgmgpnpfiaa.PFnShifts
open Go.RowKit Go.Proofs.YtdljhgmgpnpfiaaW.PrintWords Go.Proofs.YtdljhgmgpnpfiaaW.PrintLast Go.Proofs.YtdljhgmgpnpfiaaW.PrintMore
attribute [local go_sem] max2_int min2_int max_two min_two max_three min_three max_four min_four   -- for this text's walks alone
set_option linter.unusedVariables false
set_option linter.unusedSimpArgs false

/-! ### impl_shiftOnce: function 78 -/
mutual
def impl_shiftOnce.j1 : Nat → Int → Int → Int → Int → Bool → Bool → Option (Int × Int)
  | 0, _, _, _, _, _, _ => none
  | k + 1, x0, x1, x3, x13, x14, x15 => if x0 = 22 then (impl_shiftOnce.j2 k x1 x13 x14 x15 x3 true) else (if x0 = 23 then (impl_shiftOnce.j2 k x1 x13 x14 x15 x3 true) else (impl_shiftOnce.j2 k x1 x13 x14 x15 x3 (x0 == 24)))
def impl_shiftOnce.j2 : Nat → Int → Int → Bool → Bool → Int → Bool → Option (Int × Int)
  | 0, _, _, _, _, _, _ => none
  | k + 1, x1, x13, x14, x15, x16, x94 => if x94 = true then ((impl_flagsOf.f x1 x13).bind fun t149 => ((impl_flag.f x14 1).bind fun t150 => ((impl_flag.f x15 2048).bind fun t151 => (some (x13, Go.bits .or .i64 (Go.bits .or .i64 (Go.bits .andNot .i64 t149 2049) t150) t151))))) else ((impl_flag.f x14 1).bind fun t152 => ((impl_flag.f x15 2048).bind fun t153 => (some (x13, Go.bits .or .i64 (Go.bits .or .i64 (Go.bits .andNot .i64 x16 2049) t152) t153))))
def impl_shiftOnce.j0 : Nat → Int → Int → Int → Int → Bool → Bool → Int → Bool → Bool → Int → Bool → Option (Int × Int)
  | 0, _, _, _, _, _, _, _, _, _, _, _ => none
  | k + 1, x0, x1, x2, x3, x10, x11, x12, x14, x15, x28, x48 => if x48 = true then ((impl_zero.f (wrap64 (x2 * 2)) x1).bind fun t142 => (if x0 = 20 then ((impl_flag.f x10 1).bind fun t143 => ((impl_top.f (Go.bits .or .i64 t142 t143) x1).bind fun t144 => (impl_shiftOnce.j1 k x0 x1 x3 (Go.bits .or .i64 t142 t143) x10 (t144 != x10)))) else ((impl_top.f t142 x1).bind fun t145 => (impl_shiftOnce.j1 k x0 x1 x3 t142 x10 (t145 != x10))))) else (if x28 = 23 then (impl_shiftOnce.j1 k x0 x1 x3 (wrap64 ((IntKind.u64.wrap (x2)) / 2)) x14 x10) else (if x28 = 24 then ((impl_flag.f x10 x12).bind fun t146 => (impl_shiftOnce.j1 k x0 x1 x3 (Go.bits .or .i64 (wrap64 ((IntKind.u64.wrap (x2)) / 2)) t146) x14 x15)) else ((impl_flag.f x11 x12).bind fun t147 => ((impl_top.f (Go.bits .or .i64 (wrap64 ((IntKind.u64.wrap (x2)) / 2)) t147) x1).bind fun t148 => (if 0 ≤ (wrap64 ((wrap64 (8 * x1)) - 2)) then (impl_shiftOnce.j1 k x0 x1 x3 (Go.bits .or .i64 (wrap64 ((IntKind.u64.wrap (x2)) / 2)) t147) x14 (t148 != ((Go.bits .and .i64 (shr .i64 (Go.bits .or .i64 (wrap64 ((IntKind.u64.wrap (x2)) / 2)) t147) (wrap64 ((wrap64 (8 * x1)) - 2))) 1) == 1))) else (none))))))
end
def impl_shiftOnce.f (k : Nat) (a0 : Int) (a1 : Int) (a2 : Int) (a3 : Int) : Option (Int × Int) := (impl_top.f a2 a1).bind fun t141 => (if 0 ≤ (wrap64 ((wrap64 (8 * a1)) - 1)) then (if a0 = 22 then (impl_shiftOnce.j0 k a0 a1 a2 a3 t141 ((Go.bits .and .i64 a2 1) == 1) (shl .i64 1 (wrap64 ((wrap64 (8 * a1)) - 1))) ((Go.bits .and .i64 a2 1) == 1) false a0 (a0 == 22)) else (impl_shiftOnce.j0 k a0 a1 a2 a3 t141 ((Go.bits .and .i64 a2 1) == 1) (shl .i64 1 (wrap64 ((wrap64 (8 * a1)) - 1))) ((Go.bits .and .i64 a2 1) == 1) false a0 (a0 == 20))) else (none))
theorem impl_shiftOnce.mono_l : ∀ k, (∀ y0 y1 y2 y3 y4 y5, LeO (impl_shiftOnce.j1 k y0 y1 y2 y3 y4 y5) (impl_shiftOnce.j1 (k + 1) y0 y1 y2 y3 y4 y5)) ∧ (∀ y0 y1 y2 y3 y4 y5, LeO (impl_shiftOnce.j2 k y0 y1 y2 y3 y4 y5) (impl_shiftOnce.j2 (k + 1) y0 y1 y2 y3 y4 y5)) ∧ (∀ y0 y1 y2 y3 y4 y5 y6 y7 y8 y9 y10, LeO (impl_shiftOnce.j0 k y0 y1 y2 y3 y4 y5 y6 y7 y8 y9 y10) (impl_shiftOnce.j0 (k + 1) y0 y1 y2 y3 y4 y5 y6 y7 y8 y9 y10))
  | 0 => ⟨fun _ _ _ _ _ _ r h => by simp [impl_shiftOnce.j1] at h, fun _ _ _ _ _ _ r h => by simp [impl_shiftOnce.j2] at h, fun _ _ _ _ _ _ _ _ _ _ _ r h => by simp [impl_shiftOnce.j0] at h⟩
  | k + 1 => by
    obtain ⟨ih0, ih1, ih2⟩ := impl_shiftOnce.mono_l k
    refine ⟨?_, ?_, ?_⟩
    · intro y0 y1 y2 y3 y4 y5
      unfold impl_shiftOnce.j1
      repeat' first
      | (with_reducible exact ih0 _ _ _ _ _ _)
      | (with_reducible exact ih1 _ _ _ _ _ _)
      | (with_reducible exact ih2 _ _ _ _ _ _ _ _ _ _ _)
      | (with_reducible exact LeO.refl _)
      | (with_reducible exact LeO.none _)
      | (with_reducible refine LeO.ite ?_ ?_)
      | (with_reducible refine LeO.bind ?_ (fun _ => ?_))
      | exact ih0 _ _ _ _ _ _
      | exact ih1 _ _ _ _ _ _
      | exact ih2 _ _ _ _ _ _ _ _ _ _ _
      | exact LeO.none _
      | refine LeO.ite ?_ ?_
      | refine LeO.bind ?_ (fun _ => ?_)
    · intro y0 y1 y2 y3 y4 y5
      unfold impl_shiftOnce.j2
      repeat' first
      | (with_reducible exact ih0 _ _ _ _ _ _)
      | (with_reducible exact ih1 _ _ _ _ _ _)
      | (with_reducible exact ih2 _ _ _ _ _ _ _ _ _ _ _)
      | (with_reducible exact LeO.refl _)
      | (with_reducible exact LeO.none _)
      | (with_reducible refine LeO.ite ?_ ?_)
      | (with_reducible refine LeO.bind ?_ (fun _ => ?_))
      | exact ih0 _ _ _ _ _ _
      | exact ih1 _ _ _ _ _ _
      | exact ih2 _ _ _ _ _ _ _ _ _ _ _
      | exact LeO.none _
      | refine LeO.ite ?_ ?_
      | refine LeO.bind ?_ (fun _ => ?_)
    · intro y0 y1 y2 y3 y4 y5 y6 y7 y8 y9 y10
      unfold impl_shiftOnce.j0
      repeat' first
      | (with_reducible exact ih0 _ _ _ _ _ _)
      | (with_reducible exact ih1 _ _ _ _ _ _)
      | (with_reducible exact ih2 _ _ _ _ _ _ _ _ _ _ _)
      | (with_reducible exact LeO.refl _)
      | (with_reducible exact LeO.none _)
      | (with_reducible refine LeO.ite ?_ ?_)
      | (with_reducible refine LeO.bind ?_ (fun _ => ?_))
      | exact ih0 _ _ _ _ _ _
      | exact ih1 _ _ _ _ _ _
      | exact ih2 _ _ _ _ _ _ _ _ _ _ _
      | exact LeO.none _
      | refine LeO.ite ?_ ?_
      | refine LeO.bind ?_ (fun _ => ?_)
theorem impl_shiftOnce.mono : ∀ a0 a1 a2 a3 k, LeO (impl_shiftOnce.f k a0 a1 a2 a3) (impl_shiftOnce.f (k + 1) a0 a1 a2 a3) := by
  intro a0 a1 a2 a3 k
  obtain ⟨ih0, ih1, ih2⟩ := impl_shiftOnce.mono_l k
  unfold impl_shiftOnce.f
  repeat' first
      | (with_reducible exact ih0 _ _ _ _ _ _)
      | (with_reducible exact ih1 _ _ _ _ _ _)
      | (with_reducible exact ih2 _ _ _ _ _ _ _ _ _ _ _)
      | (with_reducible exact LeO.refl _)
      | (with_reducible exact LeO.none _)
      | (with_reducible refine LeO.ite ?_ ?_)
      | (with_reducible refine LeO.bind ?_ (fun _ => ?_))
      | exact ih0 _ _ _ _ _ _
      | exact ih1 _ _ _ _ _ _
      | exact ih2 _ _ _ _ _ _ _ _ _ _ _
      | exact LeO.none _
      | refine LeO.ite ?_ ?_
      | refine LeO.bind ?_ (fun _ => ?_)
set_option maxHeartbeats 8000000 in
set_option maxRecDepth 100000 in
theorem impl_shiftOnce.calls (k : Nat) (a0 : Int) (a1 : Int) (a2 : Int) (a3 : Int) (r1 : Int) (r2 : Int) (w : World) (h : impl_shiftOnce.f k a0 a1 a2 a3 = some (r1, r2)) :
    Calls Try.prog 78 #[.int .i64 a0, .int .i64 a1, .int .i64 a2, .int .i64 a3] w fun e w' => e = .returned (.tuple #[.int .i64 r1, .int .i64 r2]) ∧ Drawn0 w w' := by
  have H : ((impl_top.f a2 a1).bind fun t141 => (if 0 ≤ (wrap64 ((wrap64 (8 * a1)) - 1)) then (if a0 = 22 then (impl_shiftOnce.j0 k a0 a1 a2 a3 t141 ((Go.bits .and .i64 a2 1) == 1) (shl .i64 1 (wrap64 ((wrap64 (8 * a1)) - 1))) ((Go.bits .and .i64 a2 1) == 1) false a0 (a0 == 22)) else (impl_shiftOnce.j0 k a0 a1 a2 a3 t141 ((Go.bits .and .i64 a2 1) == 1) (shl .i64 1 (wrap64 ((wrap64 (8 * a1)) - 1))) ((Go.bits .and .i64 a2 1) == 1) false a0 (a0 == 20))) else (none))) = some (r1, r2) := h
  clear h
  replace H := Option.bind_eq_some_iff.mp H
  obtain ⟨t141, A50, H⟩ := H
  replace H : (if 0 ≤ (wrap64 ((wrap64 (8 * a1)) - 1)) then (if a0 = 22 then (impl_shiftOnce.j0 k a0 a1 a2 a3 t141 ((Go.bits .and .i64 a2 1) == 1) (shl .i64 1 (wrap64 ((wrap64 (8 * a1)) - 1))) ((Go.bits .and .i64 a2 1) == 1) false a0 (a0 == 22)) else (impl_shiftOnce.j0 k a0 a1 a2 a3 t141 ((Go.bits .and .i64 a2 1) == 1) (shl .i64 1 (wrap64 ((wrap64 (8 * a1)) - 1))) ((Go.bits .and .i64 a2 1) == 1) false a0 (a0 == 20))) else (none)) = some (r1, r2) := H
  have A5 := Aside0.mk A50
  clear A50
  obtain ⟨ji6, hji6⟩ : ∃ j_ : Int, (wrap64 ((wrap64 (8 * a1)) - 1)) = j_ := ⟨_, rfl⟩
  replace H : (if 0 ≤ (ji6) then (if a0 = 22 then (impl_shiftOnce.j0 k a0 a1 a2 a3 t141 ((Go.bits .and .i64 a2 1) == 1) (shl .i64 1 (ji6)) ((Go.bits .and .i64 a2 1) == 1) false a0 (a0 == 22)) else (impl_shiftOnce.j0 k a0 a1 a2 a3 t141 ((Go.bits .and .i64 a2 1) == 1) (shl .i64 1 (ji6)) ((Go.bits .and .i64 a2 1) == 1) false a0 (a0 == 20))) else (none)) = some (r1, r2) := by first | (rw [hji6] at H; exact H) | (simp only [hji6] at H ⊢; exact H)
  (try rw [hji6] at A5)
  have hji6w : (IntKind.i64.wrap ((wrap64 (8 * a1)) - 1)) = ji6 := (i64_w _).trans hji6
  by_cases c7 : 0 ≤ (ji6)
  · rw [if_pos c7] at H
    have c7b0 := eq_true c7
    have c7b1 : decide (0 ≤ (ji6)) = true := decide_eq_true c7
    clear c7
    obtain ⟨ji8, hji8⟩ : ∃ j_ : Int, (shl .i64 1 (ji6)) = j_ := ⟨_, rfl⟩
    replace H : (if a0 = 22 then (impl_shiftOnce.j0 k a0 a1 a2 a3 t141 ((Go.bits .and .i64 a2 1) == 1) ji8 ((Go.bits .and .i64 a2 1) == 1) false a0 (a0 == 22)) else (impl_shiftOnce.j0 k a0 a1 a2 a3 t141 ((Go.bits .and .i64 a2 1) == 1) ji8 ((Go.bits .and .i64 a2 1) == 1) false a0 (a0 == 20))) = some (r1, r2) := by first | (rw [hji8] at H; exact H) | (simp only [hji8] at H ⊢; exact H)
    (try rw [hji8] at A5)
    have hji8_ : (IntKind.i64.wrap (1 * 2 ^ min (ji6).toNat 64)) = ji8 := hji8
    have hji8z : (ji6) ≤ 64 → (IntKind.i64.wrap (1 * 2 ^ (ji6).toNat)) = ji8 := shl_small hji8
    have hji8u : (IntKind.i64.wrap (2 ^ min (ji6).toNat 64)) = ji8 := by have h_ := hji8_; rw [Int.one_mul] at h_; exact h_
    have hji8v : (ji6) ≤ 64 → (IntKind.i64.wrap (2 ^ (ji6).toNat)) = ji8 := fun hle_ => by have h_ := hji8z hle_; rw [Int.one_mul] at h_; exact h_
    have hji8y : (wrap64 (1 * 2 ^ min (ji6).toNat 64)) = ji8 := (i64_w _).symm.trans hji8_
    have hji8x : (ji6) ≤ 64 → (wrap64 (1 * 2 ^ (ji6).toNat)) = ji8 := fun h_ => (i64_w _).symm.trans (hji8z h_)
    have HC9 := Aside0.mk H
    clear H
    go_enter Try.func78, Try.ntmps78
    go_upto_block 0 with (first | (go_at_call 99; (with_reducible refine (impl_top.calls a2 a1 t141 _ A5.out).mono ?_); rintro e w' ⟨rfl, ⟨nd, rfl⟩⟩; (try first | exact ⟨rfl, _, World.drewN_drewN _ _ _⟩ | exact ⟨rfl, _, Eq.trans (World.drewN_drewN _ _ _) (congrArg (World.drewN _) (Nat.add_assoc _ _ _))⟩)))
    repeat (go_quiet (first | (go_at_call 99; (with_reducible refine (impl_top.calls a2 a1 t141 _ A5.out).mono ?_); rintro e w' ⟨rfl, ⟨nd, rfl⟩⟩; (try first | exact ⟨rfl, _, World.drewN_drewN _ _ _⟩ | exact ⟨rfl, _, Eq.trans (World.drewN_drewN _ _ _) (congrArg (World.drewN _) (Nat.add_assoc _ _ _))⟩))); go_upto_block 0 with (first | (go_at_call 99; (with_reducible refine (impl_top.calls a2 a1 t141 _ A5.out).mono ?_); rintro e w' ⟨rfl, ⟨nd, rfl⟩⟩; (try first | exact ⟨rfl, _, World.drewN_drewN _ _ _⟩ | exact ⟨rfl, _, Eq.trans (World.drewN_drewN _ _ _) (congrArg (World.drewN _) (Nat.add_assoc _ _ _))⟩))))
    (try simp only [Act.put, List.setIfInBounds_toArray, List.set_cons_zero, List.set_cons_succ])
    go_cut [13, 14, 15] (fun v13 v14 v15 wc => ∃ (kq : Nat) (x13_8 : Int) (x14_8 : Bool) (x15_8 : Bool), v13 = .int .i64 x13_8 ∧ v14 = .bool x14_8 ∧ v15 = .bool x15_8 ∧ Aside0 (impl_shiftOnce.j1 kq a0 a1 a3 x13_8 x14_8 x15_8 = some (r1, r2)) ∧ Aside0 (kq ≤ k) ∧ Drawn0 w wc)
    case first =>
      have H := HC9.out
      clear HC9
      have HC10 := Aside0.mk H
      clear H
      go_upto_if 48 with (fail)
      repeat (go_quiet (fail); go_upto_if 48 with (fail))
      go_cut [48] (fun v48 wc => ∃ (kq : Nat) (x48_9 : Bool), v48 = .bool x48_9 ∧ Aside0 (impl_shiftOnce.j0 kq a0 a1 a2 a3 t141 ((Go.bits .and .i64 a2 1) == 1) ji8 ((Go.bits .and .i64 a2 1) == 1) false a0 x48_9 = some (r1, r2)) ∧ Aside0 (kq ≤ k) ∧ Drawn0 w wc)
      case first =>
        have H := HC10.out
        clear HC10
        by_cases c11 : a0 = 22
        · rw [if_pos c11] at H
          have c11b0 : (a0 == 22) = true := beq_iff_eq.mpr c11
          have c11b1 : (a0 != 22) = false := bne_eq_false_iff_eq.mpr c11
          clear c11
          (first | rw [c11b0] | (simp only [i64_w, i32_w]; rw [c11b0]) | skip)
          have H' := Aside0.mk H
          clear H
          go_wp2
          repeat (go_quiet (fail); try go_wp2)
          go_meet
          case rel => (try rw [c11b0]); (try rw [c11b1]); exact ⟨_, ((a0 == 22)), (by first | rfl | (simp; done) | (simp [*]; done)), H', ⟨by first | omega | exact Nat.le_refl _⟩, by repeat (first | exact Drawn0.refl _ | apply Drawn0.step)⟩
        · rw [if_neg c11] at H
          have c11b0 : (a0 == 22) = false := beq_eq_false_iff_ne.mpr c11
          have c11b1 : (a0 != 22) = true := bne_iff_ne.mpr c11
          (first | rw [c11b0] | (simp only [i64_w, i32_w]; rw [c11b0]) | skip)
          have H' := Aside0.mk H
          clear H
          go_wp2
          repeat (go_quiet (fail); try go_wp2)
          go_meet
          case rel => (try rw [c11b0]); (try rw [c11b1]); exact ⟨_, ((a0 == 20)), (by first | rfl | (simp; done) | (simp [*]; done)), H', ⟨by first | omega | exact Nat.le_refl _⟩, by repeat (first | exact Drawn0.refl _ | apply Drawn0.step)⟩
      case rest =>
        clear HC10
        try clear c1
        try clear p2
        try clear p6
        try clear c7
        try clear c7b0
        try clear c7b1
        try clear c11
        try clear c11b0
        try clear c11b1
        obtain ⟨kq, x48_9, rfl, HA, HJ9, ⟨mc9, rfl⟩⟩ := hcut
        cases kq with
        | zero => exact absurd HA.out (by simp [impl_shiftOnce.j0])
        | succ kj9 =>
          have H := HA.out
          clear HA
          simp only [impl_shiftOnce.j0] at H
          by_cases c12 : x48_9 = true
          · subst c12
            have H1 : ((impl_zero.f (wrap64 (a2 * 2)) a1).bind fun t142 => (if a0 = 20 then ((impl_flag.f t141 1).bind fun t143 => ((impl_top.f (Go.bits .or .i64 t142 t143) a1).bind fun t144 => (impl_shiftOnce.j1 kj9 a0 a1 a3 (Go.bits .or .i64 t142 t143) t141 (t144 != t141)))) else ((impl_top.f t142 a1).bind fun t145 => (impl_shiftOnce.j1 kj9 a0 a1 a3 t142 t141 (t145 != t141))))) = some (r1, r2) := by rw [if_pos rfl] at H; exact H
            clear H
            have H := H1
            clear H1
            replace H := Option.bind_eq_some_iff.mp H
            obtain ⟨t142, A130, H⟩ := H
            replace H : (if a0 = 20 then ((impl_flag.f t141 1).bind fun t143 => ((impl_top.f (Go.bits .or .i64 t142 t143) a1).bind fun t144 => (impl_shiftOnce.j1 kj9 a0 a1 a3 (Go.bits .or .i64 t142 t143) t141 (t144 != t141)))) else ((impl_top.f t142 a1).bind fun t145 => (impl_shiftOnce.j1 kj9 a0 a1 a3 t142 t141 (t145 != t141)))) = some (r1, r2) := H
            have A13 := Aside0.mk A130
            clear A130
            by_cases c14 : a0 = 20
            · rw [if_pos c14] at H
              have c14b0 : (a0 == 20) = true := beq_iff_eq.mpr c14
              have c14b1 : (a0 != 20) = false := bne_eq_false_iff_eq.mpr c14
              clear c14
              replace H := Option.bind_eq_some_iff.mp H
              obtain ⟨t143, A150, H⟩ := H
              replace H : ((impl_top.f (Go.bits .or .i64 t142 t143) a1).bind fun t144 => (impl_shiftOnce.j1 kj9 a0 a1 a3 (Go.bits .or .i64 t142 t143) t141 (t144 != t141))) = some (r1, r2) := H
              have A15 := Aside0.mk A150
              clear A150
              replace H := Option.bind_eq_some_iff.mp H
              obtain ⟨t144, A160, H⟩ := H
              replace H : (impl_shiftOnce.j1 kj9 a0 a1 a3 (Go.bits .or .i64 t142 t143) t141 (t144 != t141)) = some (r1, r2) := H
              have A16 := Aside0.mk A160
              clear A160
              have H' := Aside0.mk H
              clear H
              go_wp2_with (first | (go_at_call 70; (with_reducible refine (impl_zero.calls (wrap64 (a2 * 2)) a1 t142 _ A13.out).mono ?_); rintro e w' ⟨rfl, ⟨nd, rfl⟩⟩; (try first | exact ⟨rfl, _, World.drewN_drewN _ _ _⟩ | exact ⟨rfl, _, Eq.trans (World.drewN_drewN _ _ _) (congrArg (World.drewN _) (Nat.add_assoc _ _ _))⟩)) | (go_at_call 77; (with_reducible refine (impl_flag.calls t141 1 t143 _ A15.out).mono ?_); rintro e w' ⟨rfl, ⟨nd, rfl⟩⟩; (try first | exact ⟨rfl, _, World.drewN_drewN _ _ _⟩ | exact ⟨rfl, _, Eq.trans (World.drewN_drewN _ _ _) (congrArg (World.drewN _) (Nat.add_assoc _ _ _))⟩)) | (go_at_call 99; (with_reducible refine (impl_top.calls (Go.bits .or .i64 t142 t143) a1 t144 _ A16.out).mono ?_); rintro e w' ⟨rfl, ⟨nd, rfl⟩⟩; (try first | exact ⟨rfl, _, World.drewN_drewN _ _ _⟩ | exact ⟨rfl, _, Eq.trans (World.drewN_drewN _ _ _) (congrArg (World.drewN _) (Nat.add_assoc _ _ _))⟩)))
              repeat (go_quiet (first | (go_at_call 70; (with_reducible refine (impl_zero.calls (wrap64 (a2 * 2)) a1 t142 _ A13.out).mono ?_); rintro e w' ⟨rfl, ⟨nd, rfl⟩⟩; (try first | exact ⟨rfl, _, World.drewN_drewN _ _ _⟩ | exact ⟨rfl, _, Eq.trans (World.drewN_drewN _ _ _) (congrArg (World.drewN _) (Nat.add_assoc _ _ _))⟩)) | (go_at_call 77; (with_reducible refine (impl_flag.calls t141 1 t143 _ A15.out).mono ?_); rintro e w' ⟨rfl, ⟨nd, rfl⟩⟩; (try first | exact ⟨rfl, _, World.drewN_drewN _ _ _⟩ | exact ⟨rfl, _, Eq.trans (World.drewN_drewN _ _ _) (congrArg (World.drewN _) (Nat.add_assoc _ _ _))⟩)) | (go_at_call 99; (with_reducible refine (impl_top.calls (Go.bits .or .i64 t142 t143) a1 t144 _ A16.out).mono ?_); rintro e w' ⟨rfl, ⟨nd, rfl⟩⟩; (try first | exact ⟨rfl, _, World.drewN_drewN _ _ _⟩ | exact ⟨rfl, _, Eq.trans (World.drewN_drewN _ _ _) (congrArg (World.drewN _) (Nat.add_assoc _ _ _))⟩))); try go_wp2_with (first | (go_at_call 70; (with_reducible refine (impl_zero.calls (wrap64 (a2 * 2)) a1 t142 _ A13.out).mono ?_); rintro e w' ⟨rfl, ⟨nd, rfl⟩⟩; (try first | exact ⟨rfl, _, World.drewN_drewN _ _ _⟩ | exact ⟨rfl, _, Eq.trans (World.drewN_drewN _ _ _) (congrArg (World.drewN _) (Nat.add_assoc _ _ _))⟩)) | (go_at_call 77; (with_reducible refine (impl_flag.calls t141 1 t143 _ A15.out).mono ?_); rintro e w' ⟨rfl, ⟨nd, rfl⟩⟩; (try first | exact ⟨rfl, _, World.drewN_drewN _ _ _⟩ | exact ⟨rfl, _, Eq.trans (World.drewN_drewN _ _ _) (congrArg (World.drewN _) (Nat.add_assoc _ _ _))⟩)) | (go_at_call 99; (with_reducible refine (impl_top.calls (Go.bits .or .i64 t142 t143) a1 t144 _ A16.out).mono ?_); rintro e w' ⟨rfl, ⟨nd, rfl⟩⟩; (try first | exact ⟨rfl, _, World.drewN_drewN _ _ _⟩ | exact ⟨rfl, _, Eq.trans (World.drewN_drewN _ _ _) (congrArg (World.drewN _) (Nat.add_assoc _ _ _))⟩))))
              go_meet
              case rel => (try rw [c11b0]); (try rw [c11b1]); (try rw [c14b0]); (try rw [c14b1]); exact ⟨_, (Go.bits .or .i64 t142 t143), (t141), ((t144 != t141)), (by first | rfl | (simp; done) | (simp [*]; done)), (by first | rfl | (simp; done) | (simp [*]; done)), (by first | rfl | (simp; done) | (simp [*]; done)), H', ⟨by have := HJ9.out; first | omega | exact Nat.le_refl _⟩, by repeat (first | exact Drawn0.refl _ | apply Drawn0.step)⟩
            · rw [if_neg c14] at H
              have c14b0 : (a0 == 20) = false := beq_eq_false_iff_ne.mpr c14
              have c14b1 : (a0 != 20) = true := bne_iff_ne.mpr c14
              replace H := Option.bind_eq_some_iff.mp H
              obtain ⟨t145, A170, H⟩ := H
              replace H : (impl_shiftOnce.j1 kj9 a0 a1 a3 t142 t141 (t145 != t141)) = some (r1, r2) := H
              have A17 := Aside0.mk A170
              clear A170
              have H' := Aside0.mk H
              clear H
              go_wp2_with (first | (go_at_call 70; (with_reducible refine (impl_zero.calls (wrap64 (a2 * 2)) a1 t142 _ A13.out).mono ?_); rintro e w' ⟨rfl, ⟨nd, rfl⟩⟩; (try first | exact ⟨rfl, _, World.drewN_drewN _ _ _⟩ | exact ⟨rfl, _, Eq.trans (World.drewN_drewN _ _ _) (congrArg (World.drewN _) (Nat.add_assoc _ _ _))⟩)) | (go_at_call 99; (with_reducible refine (impl_top.calls t142 a1 t145 _ A17.out).mono ?_); rintro e w' ⟨rfl, ⟨nd, rfl⟩⟩; (try first | exact ⟨rfl, _, World.drewN_drewN _ _ _⟩ | exact ⟨rfl, _, Eq.trans (World.drewN_drewN _ _ _) (congrArg (World.drewN _) (Nat.add_assoc _ _ _))⟩)))
              repeat (go_quiet (first | (go_at_call 70; (with_reducible refine (impl_zero.calls (wrap64 (a2 * 2)) a1 t142 _ A13.out).mono ?_); rintro e w' ⟨rfl, ⟨nd, rfl⟩⟩; (try first | exact ⟨rfl, _, World.drewN_drewN _ _ _⟩ | exact ⟨rfl, _, Eq.trans (World.drewN_drewN _ _ _) (congrArg (World.drewN _) (Nat.add_assoc _ _ _))⟩)) | (go_at_call 99; (with_reducible refine (impl_top.calls t142 a1 t145 _ A17.out).mono ?_); rintro e w' ⟨rfl, ⟨nd, rfl⟩⟩; (try first | exact ⟨rfl, _, World.drewN_drewN _ _ _⟩ | exact ⟨rfl, _, Eq.trans (World.drewN_drewN _ _ _) (congrArg (World.drewN _) (Nat.add_assoc _ _ _))⟩))); try go_wp2_with (first | (go_at_call 70; (with_reducible refine (impl_zero.calls (wrap64 (a2 * 2)) a1 t142 _ A13.out).mono ?_); rintro e w' ⟨rfl, ⟨nd, rfl⟩⟩; (try first | exact ⟨rfl, _, World.drewN_drewN _ _ _⟩ | exact ⟨rfl, _, Eq.trans (World.drewN_drewN _ _ _) (congrArg (World.drewN _) (Nat.add_assoc _ _ _))⟩)) | (go_at_call 99; (with_reducible refine (impl_top.calls t142 a1 t145 _ A17.out).mono ?_); rintro e w' ⟨rfl, ⟨nd, rfl⟩⟩; (try first | exact ⟨rfl, _, World.drewN_drewN _ _ _⟩ | exact ⟨rfl, _, Eq.trans (World.drewN_drewN _ _ _) (congrArg (World.drewN _) (Nat.add_assoc _ _ _))⟩))))
              go_meet
              case rel => (try rw [c11b0]); (try rw [c11b1]); (try rw [c14b0]); (try rw [c14b1]); exact ⟨_, (t142), (t141), ((t145 != t141)), (by first | rfl | (simp; done) | (simp [*]; done)), (by first | rfl | (simp; done) | (simp [*]; done)), (by first | rfl | (simp; done) | (simp [*]; done)), H', ⟨by have := HJ9.out; first | omega | exact Nat.le_refl _⟩, by repeat (first | exact Drawn0.refl _ | apply Drawn0.step)⟩
          · replace c12 := Bool.eq_false_iff.mpr c12
            subst c12
            have H1 : (if a0 = 23 then (impl_shiftOnce.j1 kj9 a0 a1 a3 (wrap64 ((IntKind.u64.wrap (a2)) / 2)) ((Go.bits .and .i64 a2 1) == 1) t141) else (if a0 = 24 then ((impl_flag.f t141 ji8).bind fun t146 => (impl_shiftOnce.j1 kj9 a0 a1 a3 (Go.bits .or .i64 (wrap64 ((IntKind.u64.wrap (a2)) / 2)) t146) ((Go.bits .and .i64 a2 1) == 1) false)) else ((impl_flag.f ((Go.bits .and .i64 a2 1) == 1) ji8).bind fun t147 => ((impl_top.f (Go.bits .or .i64 (wrap64 ((IntKind.u64.wrap (a2)) / 2)) t147) a1).bind fun t148 => (if 0 ≤ (wrap64 ((wrap64 (8 * a1)) - 2)) then (impl_shiftOnce.j1 kj9 a0 a1 a3 (Go.bits .or .i64 (wrap64 ((IntKind.u64.wrap (a2)) / 2)) t147) ((Go.bits .and .i64 a2 1) == 1) (t148 != ((Go.bits .and .i64 (shr .i64 (Go.bits .or .i64 (wrap64 ((IntKind.u64.wrap (a2)) / 2)) t147) (wrap64 ((wrap64 (8 * a1)) - 2))) 1) == 1))) else (none)))))) = some (r1, r2) := by rw [if_neg (show ¬ (false = true) by decide)] at H; exact H
            clear H
            have H := H1
            clear H1
            by_cases c18 : a0 = 23
            · rw [if_pos c18] at H
              have c18b0 : (a0 == 23) = true := beq_iff_eq.mpr c18
              have c18b1 : (a0 != 23) = false := bne_eq_false_iff_eq.mpr c18
              clear c18
              have H' := Aside0.mk H
              clear H
              go_wp2
              repeat (go_quiet (fail); try go_wp2)
              go_meet
              case rel => (try rw [c11b0]); (try rw [c11b1]); (try rw [c14b0]); (try rw [c14b1]); (try rw [c18b0]); (try rw [c18b1]); exact ⟨_, (wrap64 ((IntKind.u64.wrap (a2)) / 2)), (((Go.bits .and .i64 a2 1) == 1)), (t141), (by first | rfl | (simp; done) | (simp [*]; done)), (by first | rfl | (simp; done) | (simp [*]; done)), (by first | rfl | (simp; done) | (simp [*]; done)), H', ⟨by have := HJ9.out; first | omega | exact Nat.le_refl _⟩, by repeat (first | exact Drawn0.refl _ | apply Drawn0.step)⟩
            · rw [if_neg c18] at H
              have c18b0 : (a0 == 23) = false := beq_eq_false_iff_ne.mpr c18
              have c18b1 : (a0 != 23) = true := bne_iff_ne.mpr c18
              by_cases c19 : a0 = 24
              · rw [if_pos c19] at H
                have c19b0 : (a0 == 24) = true := beq_iff_eq.mpr c19
                have c19b1 : (a0 != 24) = false := bne_eq_false_iff_eq.mpr c19
                clear c19
                replace H := Option.bind_eq_some_iff.mp H
                obtain ⟨t146, A200, H⟩ := H
                replace H : (impl_shiftOnce.j1 kj9 a0 a1 a3 (Go.bits .or .i64 (wrap64 ((IntKind.u64.wrap (a2)) / 2)) t146) ((Go.bits .and .i64 a2 1) == 1) false) = some (r1, r2) := H
                have A20 := Aside0.mk A200
                clear A200
                have H' := Aside0.mk H
                clear H
                go_wp2_with (first | (go_at_call 77; (with_reducible refine (impl_flag.calls t141 ji8 t146 _ A20.out).mono ?_); rintro e w' ⟨rfl, ⟨nd, rfl⟩⟩; (try first | exact ⟨rfl, _, World.drewN_drewN _ _ _⟩ | exact ⟨rfl, _, Eq.trans (World.drewN_drewN _ _ _) (congrArg (World.drewN _) (Nat.add_assoc _ _ _))⟩)))
                repeat (go_quiet (first | (go_at_call 77; (with_reducible refine (impl_flag.calls t141 ji8 t146 _ A20.out).mono ?_); rintro e w' ⟨rfl, ⟨nd, rfl⟩⟩; (try first | exact ⟨rfl, _, World.drewN_drewN _ _ _⟩ | exact ⟨rfl, _, Eq.trans (World.drewN_drewN _ _ _) (congrArg (World.drewN _) (Nat.add_assoc _ _ _))⟩))); try go_wp2_with (first | (go_at_call 77; (with_reducible refine (impl_flag.calls t141 ji8 t146 _ A20.out).mono ?_); rintro e w' ⟨rfl, ⟨nd, rfl⟩⟩; (try first | exact ⟨rfl, _, World.drewN_drewN _ _ _⟩ | exact ⟨rfl, _, Eq.trans (World.drewN_drewN _ _ _) (congrArg (World.drewN _) (Nat.add_assoc _ _ _))⟩))))
                go_meet
                case rel => (try rw [c11b0]); (try rw [c11b1]); (try rw [c14b0]); (try rw [c14b1]); (try rw [c18b0]); (try rw [c18b1]); (try rw [c19b0]); (try rw [c19b1]); exact ⟨_, (Go.bits .or .i64 (wrap64 ((IntKind.u64.wrap (a2)) / 2)) t146), (((Go.bits .and .i64 a2 1) == 1)), (false), (by first | rfl | (simp; done) | (simp [*]; done)), (by first | rfl | (simp; done) | (simp [*]; done)), (by first | rfl | (simp; done) | (simp [*]; done)), H', ⟨by have := HJ9.out; first | omega | exact Nat.le_refl _⟩, by repeat (first | exact Drawn0.refl _ | apply Drawn0.step)⟩
              · rw [if_neg c19] at H
                have c19b0 : (a0 == 24) = false := beq_eq_false_iff_ne.mpr c19
                have c19b1 : (a0 != 24) = true := bne_iff_ne.mpr c19
                replace H := Option.bind_eq_some_iff.mp H
                obtain ⟨t147, A210, H⟩ := H
                replace H : ((impl_top.f (Go.bits .or .i64 (wrap64 ((IntKind.u64.wrap (a2)) / 2)) t147) a1).bind fun t148 => (if 0 ≤ (wrap64 ((wrap64 (8 * a1)) - 2)) then (impl_shiftOnce.j1 kj9 a0 a1 a3 (Go.bits .or .i64 (wrap64 ((IntKind.u64.wrap (a2)) / 2)) t147) ((Go.bits .and .i64 a2 1) == 1) (t148 != ((Go.bits .and .i64 (shr .i64 (Go.bits .or .i64 (wrap64 ((IntKind.u64.wrap (a2)) / 2)) t147) (wrap64 ((wrap64 (8 * a1)) - 2))) 1) == 1))) else (none))) = some (r1, r2) := H
                have A21 := Aside0.mk A210
                clear A210
                replace H := Option.bind_eq_some_iff.mp H
                obtain ⟨t148, A220, H⟩ := H
                replace H : (if 0 ≤ (wrap64 ((wrap64 (8 * a1)) - 2)) then (impl_shiftOnce.j1 kj9 a0 a1 a3 (Go.bits .or .i64 (wrap64 ((IntKind.u64.wrap (a2)) / 2)) t147) ((Go.bits .and .i64 a2 1) == 1) (t148 != ((Go.bits .and .i64 (shr .i64 (Go.bits .or .i64 (wrap64 ((IntKind.u64.wrap (a2)) / 2)) t147) (wrap64 ((wrap64 (8 * a1)) - 2))) 1) == 1))) else (none)) = some (r1, r2) := H
                have A22 := Aside0.mk A220
                clear A220
                obtain ⟨ji23, hji23⟩ : ∃ j_ : Int, (wrap64 ((wrap64 (8 * a1)) - 2)) = j_ := ⟨_, rfl⟩
                replace H : (if 0 ≤ (ji23) then (impl_shiftOnce.j1 kj9 a0 a1 a3 (Go.bits .or .i64 (wrap64 ((IntKind.u64.wrap (a2)) / 2)) t147) ((Go.bits .and .i64 a2 1) == 1) (t148 != ((Go.bits .and .i64 (shr .i64 (Go.bits .or .i64 (wrap64 ((IntKind.u64.wrap (a2)) / 2)) t147) (ji23)) 1) == 1))) else (none)) = some (r1, r2) := by first | (rw [hji23] at H; exact H) | (simp only [hji23] at H ⊢; exact H)
                (try rw [hji23] at A21)
                (try rw [hji23] at A22)
                have hji23w : (IntKind.i64.wrap ((wrap64 (8 * a1)) - 2)) = ji23 := (i64_w _).trans hji23
                by_cases c24 : 0 ≤ (ji23)
                · rw [if_pos c24] at H
                  have c24b0 := eq_true c24
                  have c24b1 : decide (0 ≤ (ji23)) = true := decide_eq_true c24
                  clear c24
                  obtain ⟨ji25, hji25⟩ : ∃ j_ : Int, (shr .i64 (Go.bits .or .i64 (wrap64 ((IntKind.u64.wrap (a2)) / 2)) t147) (ji23)) = j_ := ⟨_, rfl⟩
                  replace H : (impl_shiftOnce.j1 kj9 a0 a1 a3 (Go.bits .or .i64 (wrap64 ((IntKind.u64.wrap (a2)) / 2)) t147) ((Go.bits .and .i64 a2 1) == 1) (t148 != ((Go.bits .and .i64 (ji25) 1) == 1))) = some (r1, r2) := by first | (rw [hji25] at H; exact H) | (simp only [hji25] at H ⊢; exact H)
                  (try rw [hji25] at A21)
                  (try rw [hji25] at A22)
                  have hji25_ : ((Go.bits .or .i64 (wrap64 ((IntKind.u64.wrap (a2)) / 2)) t147) / 2 ^ min (ji23).toNat 64) = ji25 := hji25
                  have hji25z : (ji23) ≤ 64 → ((Go.bits .or .i64 (wrap64 ((IntKind.u64.wrap (a2)) / 2)) t147) / 2 ^ (ji23).toNat) = ji25 := shr_small hji25
                  have H' := Aside0.mk H
                  clear H
                  go_wp2_with (first | (go_at_call 77; (with_reducible refine (impl_flag.calls ((Go.bits .and .i64 a2 1) == 1) ji8 t147 _ A21.out).mono ?_); rintro e w' ⟨rfl, ⟨nd, rfl⟩⟩; (try first | exact ⟨rfl, _, World.drewN_drewN _ _ _⟩ | exact ⟨rfl, _, Eq.trans (World.drewN_drewN _ _ _) (congrArg (World.drewN _) (Nat.add_assoc _ _ _))⟩)) | (go_at_call 99; (with_reducible refine (impl_top.calls (Go.bits .or .i64 (wrap64 ((IntKind.u64.wrap (a2)) / 2)) t147) a1 t148 _ A22.out).mono ?_); rintro e w' ⟨rfl, ⟨nd, rfl⟩⟩; (try first | exact ⟨rfl, _, World.drewN_drewN _ _ _⟩ | exact ⟨rfl, _, Eq.trans (World.drewN_drewN _ _ _) (congrArg (World.drewN _) (Nat.add_assoc _ _ _))⟩)))
                  repeat (go_quiet (first | (go_at_call 77; (with_reducible refine (impl_flag.calls ((Go.bits .and .i64 a2 1) == 1) ji8 t147 _ A21.out).mono ?_); rintro e w' ⟨rfl, ⟨nd, rfl⟩⟩; (try first | exact ⟨rfl, _, World.drewN_drewN _ _ _⟩ | exact ⟨rfl, _, Eq.trans (World.drewN_drewN _ _ _) (congrArg (World.drewN _) (Nat.add_assoc _ _ _))⟩)) | (go_at_call 99; (with_reducible refine (impl_top.calls (Go.bits .or .i64 (wrap64 ((IntKind.u64.wrap (a2)) / 2)) t147) a1 t148 _ A22.out).mono ?_); rintro e w' ⟨rfl, ⟨nd, rfl⟩⟩; (try first | exact ⟨rfl, _, World.drewN_drewN _ _ _⟩ | exact ⟨rfl, _, Eq.trans (World.drewN_drewN _ _ _) (congrArg (World.drewN _) (Nat.add_assoc _ _ _))⟩))); try go_wp2_with (first | (go_at_call 77; (with_reducible refine (impl_flag.calls ((Go.bits .and .i64 a2 1) == 1) ji8 t147 _ A21.out).mono ?_); rintro e w' ⟨rfl, ⟨nd, rfl⟩⟩; (try first | exact ⟨rfl, _, World.drewN_drewN _ _ _⟩ | exact ⟨rfl, _, Eq.trans (World.drewN_drewN _ _ _) (congrArg (World.drewN _) (Nat.add_assoc _ _ _))⟩)) | (go_at_call 99; (with_reducible refine (impl_top.calls (Go.bits .or .i64 (wrap64 ((IntKind.u64.wrap (a2)) / 2)) t147) a1 t148 _ A22.out).mono ?_); rintro e w' ⟨rfl, ⟨nd, rfl⟩⟩; (try first | exact ⟨rfl, _, World.drewN_drewN _ _ _⟩ | exact ⟨rfl, _, Eq.trans (World.drewN_drewN _ _ _) (congrArg (World.drewN _) (Nat.add_assoc _ _ _))⟩))))
                  go_meet
                  case rel => (try rw [c11b0]); (try rw [c11b1]); (try rw [c14b0]); (try rw [c14b1]); (try rw [c18b0]); (try rw [c18b1]); (try rw [c19b0]); (try rw [c19b1]); exact ⟨_, (Go.bits .or .i64 (wrap64 ((IntKind.u64.wrap (a2)) / 2)) t147), (((Go.bits .and .i64 a2 1) == 1)), ((t148 != ((Go.bits .and .i64 (ji25) 1) == 1))), (by first | rfl | (simp; done) | (simp [*]; done)), (by first | rfl | (simp; done) | (simp [*]; done)), (by first | rfl | (simp; done) | (simp only [← hji25] <;> (first | rfl | simp)) | (simp [*]; done)), H', ⟨by have := HJ9.out; first | omega | exact Nat.le_refl _⟩, by repeat (first | exact Drawn0.refl _ | apply Drawn0.step)⟩
                · rw [if_neg c24] at H
                  exact absurd H (by simp)
    case rest =>
      clear HC9
      try clear c1
      try clear c2
      try clear p2
      try clear p6
      try clear c7
      try clear c7b0
      try clear c7b1
      try clear c9
      try clear c11
      try clear c11b0
      try clear c11b1
      try clear c12
      try clear c14
      try clear c14b0
      try clear c14b1
      try clear c18
      try clear c18b0
      try clear c18b1
      try clear c19
      try clear c19b0
      try clear c19b1
      try clear c24
      try clear c24b0
      try clear c24b1
      try clear p2
      try clear p6
      obtain ⟨kq, x13_8, x14_8, x15_8, rfl, rfl, rfl, HA, HJ8, ⟨mc8, rfl⟩⟩ := hcut
      cases kq with
      | zero => exact absurd HA.out (by simp [impl_shiftOnce.j1])
      | succ kj8 =>
        have H := HA.out
        clear HA
        simp only [impl_shiftOnce.j1] at H
        have HC26 := Aside0.mk H
        clear H
        go_upto_region 20 with (fail)
        repeat (go_quiet (fail); go_upto_region 20 with (fail))
        go_cut [94] (fun v94 wc => ∃ (kq : Nat) (x94_25 : Bool), v94 = .bool x94_25 ∧ Aside0 (impl_shiftOnce.j2 kq a1 x13_8 x14_8 x15_8 a3 x94_25 = some (r1, r2)) ∧ Aside0 (kq ≤ kj8) ∧ Drawn0 w wc)
        case first =>
          have H := HC26.out
          clear HC26
          by_cases c27 : a0 = 22
          · rw [if_pos c27] at H
            have c27b0 : (a0 == 22) = true := beq_iff_eq.mpr c27
            have c27b1 : (a0 != 22) = false := bne_eq_false_iff_eq.mpr c27
            clear c27
            (first | rw [c27b0] | (simp only [i64_w, i32_w]; rw [c27b0]) | skip)
            have H' := Aside0.mk H
            clear H
            go_wp2
            repeat (go_quiet (fail); try go_wp2)
            go_meet
            case rel => (try rw [c11b0]); (try rw [c11b1]); (try rw [c14b0]); (try rw [c14b1]); (try rw [c18b0]); (try rw [c18b1]); (try rw [c19b0]); (try rw [c19b1]); (try rw [c27b0]); (try rw [c27b1]); exact ⟨_, (true), (by first | rfl | (simp; done) | (simp [*]; done)), H', ⟨by have := HJ8.out; first | omega | exact Nat.le_refl _⟩, by repeat (first | exact Drawn0.refl _ | apply Drawn0.step)⟩
          · rw [if_neg c27] at H
            have c27b0 : (a0 == 22) = false := beq_eq_false_iff_ne.mpr c27
            have c27b1 : (a0 != 22) = true := bne_iff_ne.mpr c27
            (first | rw [c27b0] | (simp only [i64_w, i32_w]; rw [c27b0]) | skip)
            by_cases c28 : a0 = 23
            · rw [if_pos c28] at H
              have c28b0 : (a0 == 23) = true := beq_iff_eq.mpr c28
              have c28b1 : (a0 != 23) = false := bne_eq_false_iff_eq.mpr c28
              clear c28
              have H' := Aside0.mk H
              clear H
              go_wp2
              repeat (go_quiet (fail); try go_wp2)
              go_meet
              case rel => (try rw [c11b0]); (try rw [c11b1]); (try rw [c14b0]); (try rw [c14b1]); (try rw [c18b0]); (try rw [c18b1]); (try rw [c19b0]); (try rw [c19b1]); (try rw [c27b0]); (try rw [c27b1]); (try rw [c28b0]); (try rw [c28b1]); exact ⟨_, (true), (by first | rfl | (simp; done) | (simp [*]; done)), H', ⟨by have := HJ8.out; first | omega | exact Nat.le_refl _⟩, by repeat (first | exact Drawn0.refl _ | apply Drawn0.step)⟩
            · rw [if_neg c28] at H
              have c28b0 : (a0 == 23) = false := beq_eq_false_iff_ne.mpr c28
              have c28b1 : (a0 != 23) = true := bne_iff_ne.mpr c28
              have H' := Aside0.mk H
              clear H
              go_wp2
              repeat (go_quiet (fail); try go_wp2)
              go_meet
              case rel => (try rw [c11b0]); (try rw [c11b1]); (try rw [c14b0]); (try rw [c14b1]); (try rw [c18b0]); (try rw [c18b1]); (try rw [c19b0]); (try rw [c19b1]); (try rw [c27b0]); (try rw [c27b1]); (try rw [c28b0]); (try rw [c28b1]); exact ⟨_, ((a0 == 24)), (by first | rfl | (simp; done) | (simp [*]; done)), H', ⟨by have := HJ8.out; first | omega | exact Nat.le_refl _⟩, by repeat (first | exact Drawn0.refl _ | apply Drawn0.step)⟩
        case rest =>
          clear HC26
          try clear c1
          try clear c2
          try clear p2
          try clear p6
          try clear c7
          try clear c7b0
          try clear c7b1
          try clear c8
          try clear c9
          try clear c11
          try clear c11b0
          try clear c11b1
          try clear c12
          try clear c14
          try clear c14b0
          try clear c14b1
          try clear c18
          try clear c18b0
          try clear c18b1
          try clear c19
          try clear c19b0
          try clear c19b1
          try clear c24
          try clear c24b0
          try clear c24b1
          try clear c27
          try clear c27b0
          try clear c27b1
          try clear c28
          try clear c28b0
          try clear c28b1
          try clear p2
          try clear p6
          obtain ⟨kq, x94_25, rfl, HA, HJ25, ⟨mc25, rfl⟩⟩ := hcut
          cases kq with
          | zero => exact absurd HA.out (by simp [impl_shiftOnce.j2])
          | succ kj25 =>
            have H := HA.out
            clear HA
            simp only [impl_shiftOnce.j2] at H
            by_cases c29 : x94_25 = true
            · subst c29
              have H1 : ((impl_flagsOf.f a1 x13_8).bind fun t149 => ((impl_flag.f x14_8 1).bind fun t150 => ((impl_flag.f x15_8 2048).bind fun t151 => (some (x13_8, Go.bits .or .i64 (Go.bits .or .i64 (Go.bits .andNot .i64 t149 2049) t150) t151))))) = some (r1, r2) := by rw [if_pos rfl] at H; exact H
              clear H
              have H := H1
              clear H1
              replace H := Option.bind_eq_some_iff.mp H
              obtain ⟨t149, A300, H⟩ := H
              replace H : ((impl_flag.f x14_8 1).bind fun t150 => ((impl_flag.f x15_8 2048).bind fun t151 => (some (x13_8, Go.bits .or .i64 (Go.bits .or .i64 (Go.bits .andNot .i64 t149 2049) t150) t151)))) = some (r1, r2) := H
              have A30 := Aside0.mk A300
              clear A300
              replace H := Option.bind_eq_some_iff.mp H
              obtain ⟨t150, A310, H⟩ := H
              replace H : ((impl_flag.f x15_8 2048).bind fun t151 => (some (x13_8, Go.bits .or .i64 (Go.bits .or .i64 (Go.bits .andNot .i64 t149 2049) t150) t151))) = some (r1, r2) := H
              have A31 := Aside0.mk A310
              clear A310
              replace H := Option.bind_eq_some_iff.mp H
              obtain ⟨t151, A320, H⟩ := H
              replace H : (some (x13_8, Go.bits .or .i64 (Go.bits .or .i64 (Go.bits .andNot .i64 t149 2049) t150) t151)) = some (r1, r2) := H
              have A32 := Aside0.mk A320
              clear A320
              simp only [Option.some.injEq, Prod.mk.injEq] at H
              obtain ⟨rfl, rfl⟩ := H
              go_wp2_with (first | (go_at_call 84; (with_reducible refine (impl_flagsOf.calls a1 x13_8 t149 _ A30.out).mono ?_); rintro e w' ⟨rfl, ⟨nd, rfl⟩⟩; (try first | exact ⟨rfl, _, World.drewN_drewN _ _ _⟩ | exact ⟨rfl, _, Eq.trans (World.drewN_drewN _ _ _) (congrArg (World.drewN _) (Nat.add_assoc _ _ _))⟩)) | (go_at_call 77; (with_reducible refine (impl_flag.calls x14_8 1 t150 _ A31.out).mono ?_); rintro e w' ⟨rfl, ⟨nd, rfl⟩⟩; (try first | exact ⟨rfl, _, World.drewN_drewN _ _ _⟩ | exact ⟨rfl, _, Eq.trans (World.drewN_drewN _ _ _) (congrArg (World.drewN _) (Nat.add_assoc _ _ _))⟩)) | (go_at_call 77; (with_reducible refine (impl_flag.calls x15_8 2048 t151 _ A32.out).mono ?_); rintro e w' ⟨rfl, ⟨nd, rfl⟩⟩; (try first | exact ⟨rfl, _, World.drewN_drewN _ _ _⟩ | exact ⟨rfl, _, Eq.trans (World.drewN_drewN _ _ _) (congrArg (World.drewN _) (Nat.add_assoc _ _ _))⟩)))
              repeat (go_quiet (first | (go_at_call 84; (with_reducible refine (impl_flagsOf.calls a1 x13_8 t149 _ A30.out).mono ?_); rintro e w' ⟨rfl, ⟨nd, rfl⟩⟩; (try first | exact ⟨rfl, _, World.drewN_drewN _ _ _⟩ | exact ⟨rfl, _, Eq.trans (World.drewN_drewN _ _ _) (congrArg (World.drewN _) (Nat.add_assoc _ _ _))⟩)) | (go_at_call 77; (with_reducible refine (impl_flag.calls x14_8 1 t150 _ A31.out).mono ?_); rintro e w' ⟨rfl, ⟨nd, rfl⟩⟩; (try first | exact ⟨rfl, _, World.drewN_drewN _ _ _⟩ | exact ⟨rfl, _, Eq.trans (World.drewN_drewN _ _ _) (congrArg (World.drewN _) (Nat.add_assoc _ _ _))⟩)) | (go_at_call 77; (with_reducible refine (impl_flag.calls x15_8 2048 t151 _ A32.out).mono ?_); rintro e w' ⟨rfl, ⟨nd, rfl⟩⟩; (try first | exact ⟨rfl, _, World.drewN_drewN _ _ _⟩ | exact ⟨rfl, _, Eq.trans (World.drewN_drewN _ _ _) (congrArg (World.drewN _) (Nat.add_assoc _ _ _))⟩))); try go_wp2_with (first | (go_at_call 84; (with_reducible refine (impl_flagsOf.calls a1 x13_8 t149 _ A30.out).mono ?_); rintro e w' ⟨rfl, ⟨nd, rfl⟩⟩; (try first | exact ⟨rfl, _, World.drewN_drewN _ _ _⟩ | exact ⟨rfl, _, Eq.trans (World.drewN_drewN _ _ _) (congrArg (World.drewN _) (Nat.add_assoc _ _ _))⟩)) | (go_at_call 77; (with_reducible refine (impl_flag.calls x14_8 1 t150 _ A31.out).mono ?_); rintro e w' ⟨rfl, ⟨nd, rfl⟩⟩; (try first | exact ⟨rfl, _, World.drewN_drewN _ _ _⟩ | exact ⟨rfl, _, Eq.trans (World.drewN_drewN _ _ _) (congrArg (World.drewN _) (Nat.add_assoc _ _ _))⟩)) | (go_at_call 77; (with_reducible refine (impl_flag.calls x15_8 2048 t151 _ A32.out).mono ?_); rintro e w' ⟨rfl, ⟨nd, rfl⟩⟩; (try first | exact ⟨rfl, _, World.drewN_drewN _ _ _⟩ | exact ⟨rfl, _, Eq.trans (World.drewN_drewN _ _ _) (congrArg (World.drewN _) (Nat.add_assoc _ _ _))⟩))))
              go_ret2
              exact ⟨by first | rfl | (simp; done) | (simp only [← hji6, ← hji8] <;> (first | rfl | simp)) | (simp [*]; done), by repeat (first | exact Drawn0.refl _ | apply Drawn0.step)⟩
            · replace c29 := Bool.eq_false_iff.mpr c29
              subst c29
              have H1 : ((impl_flag.f x14_8 1).bind fun t152 => ((impl_flag.f x15_8 2048).bind fun t153 => (some (x13_8, Go.bits .or .i64 (Go.bits .or .i64 (Go.bits .andNot .i64 a3 2049) t152) t153)))) = some (r1, r2) := by rw [if_neg (show ¬ (false = true) by decide)] at H; exact H
              clear H
              have H := H1
              clear H1
              replace H := Option.bind_eq_some_iff.mp H
              obtain ⟨t152, A330, H⟩ := H
              replace H : ((impl_flag.f x15_8 2048).bind fun t153 => (some (x13_8, Go.bits .or .i64 (Go.bits .or .i64 (Go.bits .andNot .i64 a3 2049) t152) t153))) = some (r1, r2) := H
              have A33 := Aside0.mk A330
              clear A330
              replace H := Option.bind_eq_some_iff.mp H
              obtain ⟨t153, A340, H⟩ := H
              replace H : (some (x13_8, Go.bits .or .i64 (Go.bits .or .i64 (Go.bits .andNot .i64 a3 2049) t152) t153)) = some (r1, r2) := H
              have A34 := Aside0.mk A340
              clear A340
              simp only [Option.some.injEq, Prod.mk.injEq] at H
              obtain ⟨rfl, rfl⟩ := H
              go_wp2_with (first | (go_at_call 77; (with_reducible refine (impl_flag.calls x14_8 1 t152 _ A33.out).mono ?_); rintro e w' ⟨rfl, ⟨nd, rfl⟩⟩; (try first | exact ⟨rfl, _, World.drewN_drewN _ _ _⟩ | exact ⟨rfl, _, Eq.trans (World.drewN_drewN _ _ _) (congrArg (World.drewN _) (Nat.add_assoc _ _ _))⟩)) | (go_at_call 77; (with_reducible refine (impl_flag.calls x15_8 2048 t153 _ A34.out).mono ?_); rintro e w' ⟨rfl, ⟨nd, rfl⟩⟩; (try first | exact ⟨rfl, _, World.drewN_drewN _ _ _⟩ | exact ⟨rfl, _, Eq.trans (World.drewN_drewN _ _ _) (congrArg (World.drewN _) (Nat.add_assoc _ _ _))⟩)))
              repeat (go_quiet (first | (go_at_call 77; (with_reducible refine (impl_flag.calls x14_8 1 t152 _ A33.out).mono ?_); rintro e w' ⟨rfl, ⟨nd, rfl⟩⟩; (try first | exact ⟨rfl, _, World.drewN_drewN _ _ _⟩ | exact ⟨rfl, _, Eq.trans (World.drewN_drewN _ _ _) (congrArg (World.drewN _) (Nat.add_assoc _ _ _))⟩)) | (go_at_call 77; (with_reducible refine (impl_flag.calls x15_8 2048 t153 _ A34.out).mono ?_); rintro e w' ⟨rfl, ⟨nd, rfl⟩⟩; (try first | exact ⟨rfl, _, World.drewN_drewN _ _ _⟩ | exact ⟨rfl, _, Eq.trans (World.drewN_drewN _ _ _) (congrArg (World.drewN _) (Nat.add_assoc _ _ _))⟩))); try go_wp2_with (first | (go_at_call 77; (with_reducible refine (impl_flag.calls x14_8 1 t152 _ A33.out).mono ?_); rintro e w' ⟨rfl, ⟨nd, rfl⟩⟩; (try first | exact ⟨rfl, _, World.drewN_drewN _ _ _⟩ | exact ⟨rfl, _, Eq.trans (World.drewN_drewN _ _ _) (congrArg (World.drewN _) (Nat.add_assoc _ _ _))⟩)) | (go_at_call 77; (with_reducible refine (impl_flag.calls x15_8 2048 t153 _ A34.out).mono ?_); rintro e w' ⟨rfl, ⟨nd, rfl⟩⟩; (try first | exact ⟨rfl, _, World.drewN_drewN _ _ _⟩ | exact ⟨rfl, _, Eq.trans (World.drewN_drewN _ _ _) (congrArg (World.drewN _) (Nat.add_assoc _ _ _))⟩))))
              go_ret2
              exact ⟨by first | rfl | (simp; done) | (simp only [← hji6, ← hji8] <;> (first | rfl | simp)) | (simp [*]; done), by repeat (first | exact Drawn0.refl _ | apply Drawn0.step)⟩
  · rw [if_neg c7] at H
    exact absurd H (by simp)

/-! ### impl_shift: function 48 -/
def impl_shift.l0 : Nat → Int → Int → Int → Int → Int → Int → Option (Int × Int)
  | 0, _, _, _, _, _, _ => none
  | k + 1, x0, x1, x2, x4, x21, x22 => if x22 < x21 then ((impl_shiftOnce.f k x0 x1 x2 x4).bind fun bt156 => (impl_shift.l0 k x0 x1 bt156.1 bt156.2 x21 (wrap64 (x22 + 1)))) else (some (x2, x4))
def impl_shift.f (k : Nat) (a0 : Int) (a1 : Int) (a2 : Int) (a3 : Int) (a4 : Int) : Option (Int × Int) := (impl_zero.f a2 a1).bind fun t154 => ((impl_flag.f (a1 == 8) 32).bind fun t155 => (impl_shift.l0 k a0 a1 t154 a4 (Go.bits .and .i64 a3 (wrap64 (31 + t155))) 0))
theorem impl_shift.mono_l : ∀ k, (∀ y0 y1 y2 y3 y4 y5, LeO (impl_shift.l0 k y0 y1 y2 y3 y4 y5) (impl_shift.l0 (k + 1) y0 y1 y2 y3 y4 y5))
  | 0 => fun _ _ _ _ _ _ r h => by simp [impl_shift.l0] at h
  | k + 1 => by
    have ih0 := impl_shift.mono_l k
    · intro y0 y1 y2 y3 y4 y5
      unfold impl_shift.l0
      repeat' first
      | (with_reducible exact ih0 _ _ _ _ _ _)
      | (with_reducible exact impl_shiftOnce.mono _ _ _ _ _)
      | (with_reducible exact LeO.refl _)
      | (with_reducible exact LeO.none _)
      | (with_reducible refine LeO.ite ?_ ?_)
      | (with_reducible refine LeO.bind ?_ (fun _ => ?_))
      | exact ih0 _ _ _ _ _ _
      | exact impl_shiftOnce.mono _ _ _ _ _
      | exact LeO.none _
      | refine LeO.ite ?_ ?_
      | refine LeO.bind ?_ (fun _ => ?_)
theorem impl_shift.mono : ∀ a0 a1 a2 a3 a4 k, LeO (impl_shift.f k a0 a1 a2 a3 a4) (impl_shift.f (k + 1) a0 a1 a2 a3 a4) := by
  intro a0 a1 a2 a3 a4 k
  have ih0 := impl_shift.mono_l k
  unfold impl_shift.f
  repeat' first
      | (with_reducible exact ih0 _ _ _ _ _ _)
      | (with_reducible exact impl_shiftOnce.mono _ _ _ _ _)
      | (with_reducible exact LeO.refl _)
      | (with_reducible exact LeO.none _)
      | (with_reducible refine LeO.ite ?_ ?_)
      | (with_reducible refine LeO.bind ?_ (fun _ => ?_))
      | exact ih0 _ _ _ _ _ _
      | exact impl_shiftOnce.mono _ _ _ _ _
      | exact LeO.none _
      | refine LeO.ite ?_ ?_
      | refine LeO.bind ?_ (fun _ => ?_)
set_option maxHeartbeats 8000000 in
set_option maxRecDepth 100000 in
theorem impl_shift.calls (k : Nat) (a0 : Int) (a1 : Int) (a2 : Int) (a3 : Int) (a4 : Int) (r1 : Int) (r2 : Int) (w : World) (h : impl_shift.f k a0 a1 a2 a3 a4 = some (r1, r2)) :
    Calls Try.prog 48 #[.int .i64 a0, .int .i64 a1, .int .i64 a2, .int .i64 a3, .int .i64 a4] w fun e w' => e = .returned (.tuple #[.int .i64 r1, .int .i64 r2]) ∧ Drawn0 w w' := by
  have H : ((impl_zero.f a2 a1).bind fun t154 => ((impl_flag.f (a1 == 8) 32).bind fun t155 => (impl_shift.l0 k a0 a1 t154 a4 (Go.bits .and .i64 a3 (wrap64 (31 + t155))) 0))) = some (r1, r2) := h
  clear h
  replace H := Option.bind_eq_some_iff.mp H
  obtain ⟨t154, A60, H⟩ := H
  replace H : ((impl_flag.f (a1 == 8) 32).bind fun t155 => (impl_shift.l0 k a0 a1 t154 a4 (Go.bits .and .i64 a3 (wrap64 (31 + t155))) 0)) = some (r1, r2) := H
  have A6 := Aside0.mk A60
  clear A60
  replace H := Option.bind_eq_some_iff.mp H
  obtain ⟨t155, A70, H⟩ := H
  replace H : (impl_shift.l0 k a0 a1 t154 a4 (Go.bits .and .i64 a3 (wrap64 (31 + t155))) 0) = some (r1, r2) := H
  have A7 := Aside0.mk A70
  clear A70
  have H' := Aside0.mk H
  clear H
  go_enter Try.func48, Try.ntmps48
  go_wp2_with (first | ((with_reducible refine gate_callee (f := 70) rfl ?_); refine goesL_ (some 14) rfl rfl Try.func70 (by kernel_rfl) rfl #[.int .i64 a2, .int .i64 a1] rfl (by (try simp only [List.map_toArray, List.map_cons, List.map_nil]); first | done | rfl | (simp only [List.length_drop, List.length_take]; rfl)) ?_; (with_reducible refine (impl_zero.calls a2 a1 t154 _ A6.out).mono ?_); rintro e w' ⟨rfl, ⟨nd, rfl⟩⟩; refine ⟨_, rfl, ?_⟩) | ((with_reducible refine gate_callee (f := 77) rfl ?_); refine goesL_ (some 18) rfl rfl Try.func77 (by kernel_rfl) rfl #[.bool (a1 == 8), .int .i64 32] rfl (by (try simp only [List.map_toArray, List.map_cons, List.map_nil]); first | done | rfl | (simp only [List.length_drop, List.length_take]; rfl)) ?_; (with_reducible refine (impl_flag.calls (a1 == 8) 32 t155 _ A7.out).mono ?_); rintro e w' ⟨rfl, ⟨nd, rfl⟩⟩; refine ⟨_, rfl, ?_⟩))
  go_loopg [2, 4, 22] k (fun kq v2 v4 v22 w' => ∃ (x2_1 : Int) (x4_1 : Int) (x22_1 : Int), v2 = .int .i64 x2_1 ∧ v4 = .int .i64 x4_1 ∧ v22 = .int .i64 x22_1 ∧ Aside0 (impl_shift.l0 kq a0 a1 x2_1 x4_1 (Go.bits .and .i64 a3 (wrap64 (31 + t155))) x22_1 = some (r1, r2)) ∧ Aside0 (kq ≤ k) ∧ Drawn0 w w')
  case atStart => exact ⟨(t154), (a4), (0), (by first | rfl | (simp; done) | (simp [*]; done)), (by first | rfl | (simp; done) | (simp [*]; done)), (by first | rfl | (simp; done) | (simp [*]; done)), H', ⟨Nat.le_refl _⟩, by repeat (first | exact Drawn0.refl _ | apply Drawn0.step)⟩
  case round =>
    clear H'
    try clear p2
    try clear c4
    try clear p6
    try clear c7
    obtain ⟨x2_1, x4_1, x22_1, rfl, rfl, rfl, HA, HK1, ⟨m1, rfl⟩⟩ := hrel
    cases gk with
    | zero => exact absurd HA.out (by simp [impl_shift.l0])
    | succ k1 =>
      have H := HA.out
      clear HA
      simp only [impl_shift.l0] at H
      by_cases c8 : x22_1 < (Go.bits .and .i64 a3 (wrap64 (31 + t155)))
      · rw [if_pos c8] at H
        have c8b0 : decide (x22_1 < (Go.bits .and .i64 a3 (wrap64 (31 + t155)))) = true := decide_eq_true c8
        clear c8
        replace H := Option.bind_eq_some_iff.mp H
        obtain ⟨⟨t156, t157⟩, A90, H⟩ := H
        replace H : (impl_shift.l0 k1 a0 a1 t156 t157 (Go.bits .and .i64 a3 (wrap64 (31 + t155))) (wrap64 (x22_1 + 1))) = some (r1, r2) := H
        have A9 := Aside0.mk A90
        clear A90
        have H' := Aside0.mk H
        clear H
        go_wp2_with (first | ((with_reducible refine gate_callee (f := 78) rfl ?_); refine goesL_ (some 29) rfl rfl Try.func78 (by kernel_rfl) rfl #[.int .i64 a0, .int .i64 a1, .int .i64 x2_1, .int .i64 x4_1] rfl (by (try simp only [List.map_toArray, List.map_cons, List.map_nil]); first | done | rfl | (simp only [List.length_drop, List.length_take]; rfl)) ?_; (with_reducible refine (impl_shiftOnce.calls k1 a0 a1 x2_1 x4_1 t156 t157 _ A9.out).mono ?_); rintro e w' ⟨rfl, ⟨nd, rfl⟩⟩; refine ⟨_, rfl, ?_⟩))
        go_roundg k1
        case measure => have := HK1.out; omega
        case rel => exact ⟨(t156), (t157), (wrap64 (x22_1 + 1)), (by first | rfl | (simp; done) | (simp [*]; done)), (by first | rfl | (simp; done) | (simp [*]; done)), (by first | rfl | (simp; done) | (simp [*]; done)), H', ⟨by have := HK1.out; omega⟩, by repeat (first | exact Drawn0.refl _ | apply Drawn0.step)⟩
      · rw [if_neg c8] at H
        have c8b0 : decide (x22_1 < (Go.bits .and .i64 a3 (wrap64 (31 + t155)))) = false := decide_eq_false c8
        clear c8
        simp only [Option.some.injEq, Prod.mk.injEq] at H
        obtain ⟨rfl, rfl⟩ := H
        go_wp2
        go_ret2
        exact ⟨by first | rfl | (simp; done) | (simp [*]; done), by repeat (first | exact Drawn0.refl _ | apply Drawn0.step)⟩

/-! ### impl_Shift: function 14 -/
def impl_Shift.f (k : Nat) (a0 : Int) (a1 : Int) (a2 : Int) (a3 : Int) (a4 : Int) : Option (Int × Int × Int) := (impl_areAsked.f a1 a4).bind fun t158 => (if t158 = true then ((impl_isShift.f a0).bind fun t159 => (if t159 = true then ((impl_shift.f k a0 a1 a2 a3 a4).bind fun bt160 => (some (bt160.1, bt160.2, 0))) else (some (0, 0, 11)))) else (some (0, 0, 4)))
theorem impl_Shift.mono : ∀ a0 a1 a2 a3 a4 k, LeO (impl_Shift.f k a0 a1 a2 a3 a4) (impl_Shift.f (k + 1) a0 a1 a2 a3 a4) := by
  intro a0 a1 a2 a3 a4 k
  unfold impl_Shift.f
  repeat' first
      | (with_reducible exact impl_shift.mono _ _ _ _ _ _)
      | (with_reducible exact LeO.refl _)
      | (with_reducible exact LeO.none _)
      | (with_reducible refine LeO.ite ?_ ?_)
      | (with_reducible refine LeO.bind ?_ (fun _ => ?_))
      | exact impl_shift.mono _ _ _ _ _ _
      | exact LeO.none _
      | refine LeO.ite ?_ ?_
      | refine LeO.bind ?_ (fun _ => ?_)
set_option maxHeartbeats 8000000 in
set_option maxRecDepth 100000 in
theorem impl_Shift.calls (k : Nat) (a0 : Int) (a1 : Int) (a2 : Int) (a3 : Int) (a4 : Int) (r1 : Int) (r2 : Int) (r3 : Int) (w : World) (h : impl_Shift.f k a0 a1 a2 a3 a4 = some (r1, r2, r3)) :
    Calls Try.prog 14 #[.int .i64 a0, .int .i64 a1, .int .i64 a2, .int .i64 a3, .int .i64 a4] w fun e w' => e = .returned (.tuple #[.int .i64 r1, .int .i64 r2, .int .i64 r3]) ∧ Drawn0 w w' := by
  have H : ((impl_areAsked.f a1 a4).bind fun t158 => (if t158 = true then ((impl_isShift.f a0).bind fun t159 => (if t159 = true then ((impl_shift.f k a0 a1 a2 a3 a4).bind fun bt160 => (some (bt160.1, bt160.2, 0))) else (some (0, 0, 11)))) else (some (0, 0, 4)))) = some (r1, r2, r3) := h
  clear h
  replace H := Option.bind_eq_some_iff.mp H
  obtain ⟨t158, A60, H⟩ := H
  replace H : (if t158 = true then ((impl_isShift.f a0).bind fun t159 => (if t159 = true then ((impl_shift.f k a0 a1 a2 a3 a4).bind fun bt160 => (some (bt160.1, bt160.2, 0))) else (some (0, 0, 11)))) else (some (0, 0, 4))) = some (r1, r2, r3) := H
  have A6 := Aside0.mk A60
  clear A60
  by_cases c7 : t158 = true
  · subst c7
    have H1 : ((impl_isShift.f a0).bind fun t159 => (if t159 = true then ((impl_shift.f k a0 a1 a2 a3 a4).bind fun bt160 => (some (bt160.1, bt160.2, 0))) else (some (0, 0, 11)))) = some (r1, r2, r3) := by rw [if_pos rfl] at H; exact H
    clear H
    have H := H1
    clear H1
    replace H := Option.bind_eq_some_iff.mp H
    obtain ⟨t159, A80, H⟩ := H
    replace H : (if t159 = true then ((impl_shift.f k a0 a1 a2 a3 a4).bind fun bt160 => (some (bt160.1, bt160.2, 0))) else (some (0, 0, 11))) = some (r1, r2, r3) := H
    have A8 := Aside0.mk A80
    clear A80
    by_cases c9 : t159 = true
    · subst c9
      have H1 : ((impl_shift.f k a0 a1 a2 a3 a4).bind fun bt160 => (some (bt160.1, bt160.2, 0))) = some (r1, r2, r3) := by rw [if_pos rfl] at H; exact H
      clear H
      have H := H1
      clear H1
      replace H := Option.bind_eq_some_iff.mp H
      obtain ⟨⟨t160, t161⟩, A100, H⟩ := H
      replace H : (some (t160, t161, 0)) = some (r1, r2, r3) := H
      have A10 := Aside0.mk A100
      clear A100
      simp only [Option.some.injEq, Prod.mk.injEq] at H
      obtain ⟨rfl, rfl, rfl⟩ := H
      go_enter Try.func14, Try.ntmps14
      go_wp2_with (first | ((with_reducible refine gate_callee (f := 42) rfl ?_); refine goesL_ (some 18) rfl rfl Try.func42 (by kernel_rfl) rfl #[.int .i64 a1, .int .i64 a4] rfl (by (try simp only [List.map_toArray, List.map_cons, List.map_nil]); first | done | rfl | (simp only [List.length_drop, List.length_take]; rfl)) ?_; (with_reducible refine (impl_areAsked.calls a1 a4 true _ A6.out).mono ?_); rintro e w' ⟨rfl, ⟨nd, rfl⟩⟩; refine ⟨_, rfl, ?_⟩) | ((with_reducible refine gate_callee (f := 47) rfl ?_); refine goesL_ (some 22) rfl rfl Try.func47 (by kernel_rfl) rfl #[.int .i64 a0] rfl (by (try simp only [List.map_toArray, List.map_cons, List.map_nil]); first | done | rfl | (simp only [List.length_drop, List.length_take]; rfl)) ?_; (with_reducible refine (impl_isShift.calls a0 true _ A8.out).mono ?_); rintro e w' ⟨rfl, ⟨nd, rfl⟩⟩; refine ⟨_, rfl, ?_⟩) | ((with_reducible refine gate_callee (f := 48) rfl ?_); refine goesL_ (some 30) rfl rfl Try.func48 (by kernel_rfl) rfl #[.int .i64 a0, .int .i64 a1, .int .i64 a2, .int .i64 a3, .int .i64 a4] rfl (by (try simp only [List.map_toArray, List.map_cons, List.map_nil]); first | done | rfl | (simp only [List.length_drop, List.length_take]; rfl)) ?_; (with_reducible refine (impl_shift.calls k a0 a1 a2 a3 a4 t160 t161 _ A10.out).mono ?_); rintro e w' ⟨rfl, ⟨nd, rfl⟩⟩; refine ⟨_, rfl, ?_⟩))
      go_ret3
      exact ⟨by first | rfl | (simp; done) | (simp [*]; done), by repeat (first | exact Drawn0.refl _ | apply Drawn0.step)⟩
    · replace c9 := Bool.eq_false_iff.mpr c9
      subst c9
      have H1 : (some (0, 0, 11)) = some (r1, r2, r3) := by rw [if_neg (show ¬ (false = true) by decide)] at H; exact H
      clear H
      have H := H1
      clear H1
      simp only [Option.some.injEq, Prod.mk.injEq] at H
      obtain ⟨rfl, rfl, rfl⟩ := H
      go_enter Try.func14, Try.ntmps14
      go_wp2_with (first | ((with_reducible refine gate_callee (f := 42) rfl ?_); refine goesL_ (some 18) rfl rfl Try.func42 (by kernel_rfl) rfl #[.int .i64 a1, .int .i64 a4] rfl (by (try simp only [List.map_toArray, List.map_cons, List.map_nil]); first | done | rfl | (simp only [List.length_drop, List.length_take]; rfl)) ?_; (with_reducible refine (impl_areAsked.calls a1 a4 true _ A6.out).mono ?_); rintro e w' ⟨rfl, ⟨nd, rfl⟩⟩; refine ⟨_, rfl, ?_⟩) | ((with_reducible refine gate_callee (f := 47) rfl ?_); refine goesL_ (some 22) rfl rfl Try.func47 (by kernel_rfl) rfl #[.int .i64 a0] rfl (by (try simp only [List.map_toArray, List.map_cons, List.map_nil]); first | done | rfl | (simp only [List.length_drop, List.length_take]; rfl)) ?_; (with_reducible refine (impl_isShift.calls a0 false _ A8.out).mono ?_); rintro e w' ⟨rfl, ⟨nd, rfl⟩⟩; refine ⟨_, rfl, ?_⟩))
      go_ret3
      exact ⟨by first | rfl | (simp; done) | (simp [*]; done), by repeat (first | exact Drawn0.refl _ | apply Drawn0.step)⟩
  · replace c7 := Bool.eq_false_iff.mpr c7
    subst c7
    have H1 : (some (0, 0, 4)) = some (r1, r2, r3) := by rw [if_neg (show ¬ (false = true) by decide)] at H; exact H
    clear H
    have H := H1
    clear H1
    simp only [Option.some.injEq, Prod.mk.injEq] at H
    obtain ⟨rfl, rfl, rfl⟩ := H
    go_enter Try.func14, Try.ntmps14
    go_wp2_with (first | ((with_reducible refine gate_callee (f := 42) rfl ?_); refine goesL_ (some 18) rfl rfl Try.func42 (by kernel_rfl) rfl #[.int .i64 a1, .int .i64 a4] rfl (by (try simp only [List.map_toArray, List.map_cons, List.map_nil]); first | done | rfl | (simp only [List.length_drop, List.length_take]; rfl)) ?_; (with_reducible refine (impl_areAsked.calls a1 a4 false _ A6.out).mono ?_); rintro e w' ⟨rfl, ⟨nd, rfl⟩⟩; refine ⟨_, rfl, ?_⟩))
    go_ret3
    exact ⟨by first | rfl | (simp; done) | (simp [*]; done), by repeat (first | exact Drawn0.refl _ | apply Drawn0.step)⟩

/-- A state of type 69 at block g of W; what its slices lead to came in by w0. -/
def IsS69 (w0 W : World) (g : Nat) (f0 : List Int) (f1 : Int) (f2 : Int) : Prop := ∃ A0 c0, W.heap[g]? = some (.cells #[.slice A0 f0.length c0, .int .i64 f1, .int .i64 f2] 69 (0, 0)) ∧ w0.heap.size ≤ g ∧ Kd.C (Kd.int .u8) w0 A0 f0.length f0
theorem IsS69.grown {w0 W : World} {g : Nat} {f0 : List Int} {f1 : Int} {f2 : Int} {W1 : World} {row : Option Nat} (h : IsS69 w0 W g f0 f1 f2) (hw : W.grownBy W1 row) (hne : some g ≠ row) : IsS69 w0 W1 g f0 f1 f2 := by
  obtain ⟨A0, c0, hb, hg, hr0⟩ := h
  exact ⟨A0, c0, blk_grown hb hw hne, hg, hr0⟩
theorem IsS69.own_neN {w0 W : World} {g : Nat} {f0 : List Int} {f1 : Int} {f2 : Int} {α : Type} {d : Kd α} {e : Nat} {base : Nat} {ok : Nat → Prop} {v : Value} {xs : List α} (h : IsS69 w0 W g f0 f1 f2) (ho : Kd.N d e W base ok v xs) (ht : e ≠ 69) : some g ≠ v.ownBlock := by
  obtain ⟨A0, c0, hb, hg, hr0⟩ := h
  exact Kd.N_ne ho hb ht
theorem IsS69.fresh {w0 W : World} {g : Nat} {f0 : List Int} {f1 : Int} {f2 : Int} (h : IsS69 w0 W g f0 f1 f2) : ∀ k, W.heap.size ≤ k → k ≠ g := by
  obtain ⟨A0, c0, hb, hg, hr0⟩ := h
  exact Kd.freshB hb
theorem IsS69.kept {w0 W : World} {g : Nat} {f0 : List Int} {f1 : Int} {f2 : Int} {W1 : World} {S : Nat → Prop} (h : IsS69 w0 W g f0 f1 f2) (hk : Kept W W1 S) (hne : ¬ S g) : IsS69 w0 W1 g f0 f1 f2 := by
  obtain ⟨A0, c0, hb, hg, hr0⟩ := h
  exact ⟨A0, c0, blk_kept hb hk hne, hg, hr0⟩
theorem IsS69.below {w0 W : World} {g : Nat} {f0 : List Int} {f1 : Int} {f2 : Int} {W1 : World} (h : IsS69 w0 W g f0 f1 f2) (hw : Below W.heap.size W W1) : IsS69 w0 W1 g f0 f1 f2 := h.grown (grown_of_below hw none) (by simp)
theorem IsS69.alloc {w0 W : World} {g : Nat} {f0 : List Int} {f1 : Int} {f2 : Int} (h : IsS69 w0 W g f0 f1 f2) (o : Obj) : IsS69 w0 (W.alloc o) g f0 f1 f2 := h.below (below_alloc (Below.refl _ _) o)
theorem IsS69.drewN {w0 W : World} {g : Nat} {f0 : List Int} {f1 : Int} {f2 : Int} (h : IsS69 w0 W g f0 f1 f2) (m : Nat) : IsS69 w0 (W.drewN m) g f0 f1 f2 := h
theorem IsS69.drew {w0 W : World} {g : Nat} {f0 : List Int} {f1 : Int} {f2 : Int} (h : IsS69 w0 W g f0 f1 f2) : IsS69 w0 W.drew g f0 f1 f2 := h
theorem IsS69.at_ {w0 W : World} {g : Nat} {f0 : List Int} {f1 : Int} {f2 : Int} {w' : World} {m : Nat} (hq : W.drewN m = w') (h : IsS69 w0 W g f0 f1 f2) : IsS69 w0 w' g f0 f1 f2 := by subst hq; exact IsS69.drewN h m
theorem IsS69.apart {w0 W : World} {g : Nat} {f0 : List Int} {f1 : Int} {f2 : Int} {α : Type} {d : Kd α} {e : Nat} {base : Nat} {ok : Nat → Prop} {v : Value} {xs : List α} (h : IsS69 w0 W g f0 f1 f2) (ho : d.R e W base ok v xs) (ht : ∀ q, q ∈ e :: d.E → q ≠ 69) : d.R e W base (fun k => ok k ∧ k ≠ g) v xs := by
  obtain ⟨A0, c0, hb, hg, hr0⟩ := h
  exact Kd.R_types ho hb ht
theorem IsS69.own_ne {w0 W : World} {g : Nat} {f0 : List Int} {f1 : Int} {f2 : Int} {α : Type} {d : Kd α} {e : Nat} {base : Nat} {ok : Nat → Prop} {v : Value} {xs : List α} (h : IsS69 w0 W g f0 f1 f2) (ho : d.R e W base ok v xs) (ht : e ≠ 69) : some g ≠ v.ownBlock := by
  obtain ⟨A0, c0, hb, hg, hr0⟩ := h
  exact Kd.R_ne ho hb ht
theorem IsS69.apartQ {w0 W : World} {g : Nat} {f0 : List Int} {f1 : Int} {f2 : Int} {α : Type} {d : Kd α} {e : Nat} {base : Nat} {ok : Nat → Prop} {v : Value} {xs : List α} (h : IsS69 w0 W g f0 f1 f2) (ho : d.Q e W base ok v xs) (ht : ∀ q, q ∈ e :: d.E → q ≠ 69) : d.Q e W base (fun k => ok k ∧ k ≠ g) v xs := by
  obtain ⟨A0, c0, hb, hg, hr0⟩ := h
  exact Kd.Q_types ho hb ht
theorem IsS69.own_neQ {w0 W : World} {g : Nat} {f0 : List Int} {f1 : Int} {f2 : Int} {α : Type} {d : Kd α} {e : Nat} {base : Nat} {ok : Nat → Prop} {v : Value} {xs : List α} (h : IsS69 w0 W g f0 f1 f2) (ho : d.Q e W base ok v xs) (ht : e ≠ 69) : some g ≠ v.ownBlock := by
  obtain ⟨A0, c0, hb, hg, hr0⟩ := h
  exact Kd.Q_ne ho hb ht
theorem IsS69.apartS {w0 W : World} {g : Nat} {f0 : List Int} {f1 : Int} {f2 : Int} {α : Type} {d : Kd α} {e : Nat} {base : Nat} {ok : Nat → Prop} {v : Value} {xs : List α} (h : IsS69 w0 W g f0 f1 f2) (ho : d.S e W base ok v xs) (ht : ∀ q, q ∈ e :: d.E → q ≠ 69) : d.S e W base (fun k => ok k ∧ k ≠ g) v xs := by
  obtain ⟨A0, c0, hb, hg, hr0⟩ := h
  exact Kd.S_types ho hb ht
theorem IsS69.own_neS {w0 W : World} {g : Nat} {f0 : List Int} {f1 : Int} {f2 : Int} {α : Type} {d : Kd α} {e : Nat} {base : Nat} {ok : Nat → Prop} {v : Value} {xs : List α} (h : IsS69 w0 W g f0 f1 f2) (ho : d.S e W base ok v xs) (ht : e ≠ 69) : some g ≠ v.ownBlock := by
  obtain ⟨A0, c0, hb, hg, hr0⟩ := h
  exact Kd.S_ne ho hb ht
theorem IsS69.lt {w0 W : World} {g : Nat} {f0 : List Int} {f1 : Int} {f2 : Int} (h : IsS69 w0 W g f0 f1 f2) : g < W.heap.size := by
  obtain ⟨A0, c0, hb, hg, hr0⟩ := h
  exact blk_lt hb
theorem IsS69.ge {w0 W : World} {g : Nat} {f0 : List Int} {f1 : Int} {f2 : Int} (h : IsS69 w0 W g f0 f1 f2) : w0.heap.size ≤ g := by
  obtain ⟨A0, c0, hb, hg, hr0⟩ := h
  exact hg
theorem IsS69.ne_blk {w0 W : World} {g : Nat} {f0 : List Int} {f1 : Int} {f2 : Int} {a : Nat} {cs : Array Value} {t : TypeId} {fr : Nat × Nat} (h : IsS69 w0 W g f0 f1 f2) (hb2 : W.heap[a]? = some (.cells cs t fr)) (ht : t ≠ 69) : g ≠ a := by
  obtain ⟨A0, c0, hb, hg, hr0⟩ := h
  rintro rfl
  rw [hb] at hb2
  injection hb2 with hb2
  injection hb2 with _ ht2
  exact ht ht2.symm
theorem IsS69.far {w0 W : World} {g : Nat} {f0 : List Int} {f1 : Int} {f2 : Int} {p : Addr} (h : IsS69 w0 W g f0 f1 f2) (hne : g ≠ p.block) (u : Value) : IsS69 w0 (W.setCell p u) g f0 f1 f2 := by
  obtain ⟨A0, c0, hb, hg, hr0⟩ := h
  exact ⟨A0, c0, blk_far hb hne u, hg, hr0⟩
theorem cellS69_0 {W : World} {g : Nat} {A0 : Option Addr} {c0 : Nat} {f0 : List Int} {f1 : Int} {f2 : Int} (h : W.heap[g]? = some (.cells #[.slice A0 f0.length c0, .int .i64 f1, .int .i64 f2] 69 (0, 0))) : W.cell? ⟨g, 0, none⟩ = some (.slice A0 f0.length c0) := (blk_cell h 0).trans rfl
theorem cellS69_1 {W : World} {g : Nat} {A0 : Option Addr} {c0 : Nat} {f0 : List Int} {f1 : Int} {f2 : Int} (h : W.heap[g]? = some (.cells #[.slice A0 f0.length c0, .int .i64 f1, .int .i64 f2] 69 (0, 0))) : W.cell? ⟨g, 1, none⟩ = some (.int .i64 f1) := (blk_cell h 1).trans rfl
theorem IsS69.set_1 {w0 W : World} {g : Nat} {f0 : List Int} {f1 : Int} {f2 : Int} (h : IsS69 w0 W g f0 f1 f2) (x : Int) : IsS69 w0 (W.setCell ⟨g, 1, none⟩ (.int .i64 x)) g f0 x f2 := by
  obtain ⟨A0, c0, hb, hg, hr0⟩ := h
  exact ⟨A0, c0, by simpa using blk_set hb 1 (.int .i64 x), hg, hr0⟩
theorem cellS69_2 {W : World} {g : Nat} {A0 : Option Addr} {c0 : Nat} {f0 : List Int} {f1 : Int} {f2 : Int} (h : W.heap[g]? = some (.cells #[.slice A0 f0.length c0, .int .i64 f1, .int .i64 f2] 69 (0, 0))) : W.cell? ⟨g, 2, none⟩ = some (.int .i64 f2) := (blk_cell h 2).trans rfl
theorem IsS69.set_2 {w0 W : World} {g : Nat} {f0 : List Int} {f1 : Int} {f2 : Int} (h : IsS69 w0 W g f0 f1 f2) (x : Int) : IsS69 w0 (W.setCell ⟨g, 2, none⟩ (.int .i64 x)) g f0 f1 x := by
  obtain ⟨A0, c0, hb, hg, hr0⟩ := h
  exact ⟨A0, c0, by simpa using blk_set hb 2 (.int .i64 x), hg, hr0⟩
theorem IsS69.new (w0 W : World) (A0 : Option Addr) (c0 : Nat) (f0 : List Int) (f1 : Int) (f2 : Int) (hB : Below w0.heap.size w0 W) (hr0 : Kd.C (Kd.int .u8) w0 A0 f0.length f0) : IsS69 w0 (W.alloc (.cells #[.slice A0 f0.length c0, .int .i64 f1, .int .i64 f2] 69)) W.heap.size f0 f1 f2 := ⟨A0, c0, by simpa using heap_alloc_new W _, hB.size, hr0⟩

/-! ### spec_l00Source: function 58 -/
def spec_l00Source.f (l0 : List Int) : Option (List Int × Int × Int) := some (l0, 0, (l0.length : Int) % 1000)
set_option maxHeartbeats 8000000 in
set_option maxRecDepth 100000 in
theorem spec_l00Source.calls (A0 : Option Addr) (c0 : Nat) (l0 : List Int) (r1 : List Int) (r2 : Int) (r3 : Int) (w0 w : World) (hB : Below w0.heap.size w0 w) (hr0 : Kd.C (Kd.int .u8) w0 A0 l0.length l0) (hc0 : l0.length ≤ c0) (h : spec_l00Source.f l0 = some (r1, r2, r3)) :
    Calls Try.prog 58 #[.slice A0 l0.length c0] w fun e w' => ∃ g_ : Nat, e = .returned (.pointer (some ⟨g_, 0, none⟩)) ∧ IsS69 w0 w' g_ r1 r2 r3 ∧ Below w0.heap.size w0 w' ∧ Below w.heap.size w w' := by
  have hu69 := Try.underlying69
  have HR0 := Aside0.mk hr0
  have HC0 := Aside0.mk hc0
  clear hr0 hc0
  have HBW := Aside0.mk (Below.refl w.heap.size w)
  have HW0 := Aside0.mk hB.size
  have HB := Aside0.mk hB
  clear hB
  have H : (some (l0, 0, (l0.length : Int) % 1000)) = some (r1, r2, r3) := h
  clear h
  simp only [Option.some.injEq, Prod.mk.injEq] at H
  obtain ⟨rfl, rfl, rfl⟩ := H
  go_enter Try.func58, Try.ntmps58
  go_wp2_with (first | ((with_reducible refine gate_dst (N := 8) rfl ?_); refine box_event ?hg (N := 8) ?hd (cs := #[.slice A0 l0.length c0, .int .i64 0, .int .i64 ((l0.length : Int) % 1000)]) (t := 69) ?hr ?_; (case hd => rfl); (case hg => rfl); (case hr => first | (go_simp; done) | (go_simp; rfl)); intro gb162 hg w2 hbox hb; have n0_ := Aside0.mk (below_step HBW.out hb); have n1_ := Aside0.mk (below_step (by repeat (first | (with_reducible first | exact HB.out | apply below_alloc | apply pw_below_drewN | apply below_drew1) | exact HB.out)) hb); have n2_ := Aside0.mk (hbox); have n3_ := Aside0.mk ((by rw [hg]; exact (below_size (by repeat (first | (with_reducible first | exact HBW.out | apply below_alloc | apply pw_below_drewN | apply below_drew1) | exact HBW.out))) : w.heap.size ≤ gb162)); have n4_ := Aside0.mk ((Nat.le_trans HW0.out (by rw [hg]; exact (below_size (by repeat (first | (with_reducible first | exact HBW.out | apply below_alloc | apply pw_below_drewN | apply below_drew1) | exact HBW.out))) : w.heap.size ≤ gb162) : w0.heap.size ≤ gb162)); clear HBW; clear HB; have HBW := n0_; have HB := n1_; have BK162 := n2_; have GW162 := n3_; have GE162 := n4_; clear n0_ n1_ n2_ n3_ n4_; clear hb hbox hg))
  go_ret
  exact ⟨_, rfl, (show IsS69 w0 _ gb162 l0 0 ((l0.length : Int) % 1000) from ⟨_, _, by (with_reducible repeat (first | refine blk_drewN ?_ _ | refine blk_drew ?_ | refine blk_alloc ?_ _)); exact BK162.out, GE162.out, HR0.out⟩), by repeat (first | (with_reducible first | exact HB.out | apply below_alloc | apply pw_below_drewN | apply below_drew1 | refine below_set ?_ GE162.out) | exact HB.out), by repeat (first | (with_reducible first | exact HBW.out | apply below_alloc | apply pw_below_drewN | apply below_drew1 | refine below_set ?_ GW162.out) | exact HBW.out)⟩

/-! ### spec_l00Src_byte: function 96 -/
def spec_l00Src_byte.f (s0_0 : List Int) (s0_1 : Int) (s0_2 : Int) : Option (Int × Int × Int) :=
  if wrap64 (s0_1 + 1) ≤ (s0_0.length : Int) then (if 0 ≤ wrap64 (wrap64 (s0_1 + 1) - 1) then (if wrap64 (wrap64 (s0_1 + 1) - 1) < (s0_0.length : Int) then
      some (wrap64 (rd s0_0 (wrap64 (wrap64 (s0_1 + 1) - 1))), wrap64 (s0_1 + 1), Int.tmod (wrap64 (wrap64 (wrap64 (s0_2 * 31) + wrap64 (rd s0_0 (wrap64 (wrap64 (s0_1 + 1) - 1)))) + 7)) 2147483648) else none) else none)
  else (if wrap64 (s0_1 + 1) > 3000 then some (0, wrap64 (s0_1 + 1), s0_2)
    else some (Int.tmod (wrap64 (Int.tdiv (Int.tmod (wrap64 (wrap64 (s0_2 * 1103515245) + 12345)) 2147483648) 65536)) 256, wrap64 (s0_1 + 1), Int.tmod (wrap64 (wrap64 (s0_2 * 1103515245) + 12345)) 2147483648))
set_option maxHeartbeats 8000000 in
set_option maxRecDepth 100000 in
theorem spec_l00Src_byte.two (g : Nat) (s0_0 : List Int) (s0_1 : Int) (s0_2 : Int) (w0 w : World) (hI : IsS69 w0 w g s0_0 s0_1 s0_2) (hB : Below w0.heap.size w0 w) (p : Int) (hp : wrap64 (s0_1 + 1) = p) (c1 : ¬ p ≤ (s0_0.length : Int)) (c2 : p > 3000) :
    Calls Try.prog 96 #[.pointer (some ⟨g, 0, none⟩)] w fun e w' => e = .returned (.int .i64 (0)) ∧ IsS69 w0 w' g s0_0 p (s0_2) ∧ Below w0.heap.size w0 w' ∧ KeepBut w w' g none := by
  have hI1 := IsS69.set_1 hI p
  have HG := Aside0.mk (IsS69.ge hI)
  have HB := Aside0.mk (below_set hB (IsS69.ge hI) (v := .int .i64 p) (j := 1))
  have HK := Aside0.mk (KeepBut.set_ (KeepBut.refl w g none) 1 (.int .i64 p))
  obtain ⟨A0, c0, hb, hg, hr⟩ := id hI
  have hc1 := cellS69_1 hb
  have hf1 : w.frozen? ⟨g, 1, none⟩ = false := by simp [World.frozen?, hb]
  clear hb
  obtain ⟨A1, c1', hb1, hg1, hr1⟩ := id hI1
  have hd0 := Aside0.mk (cellS69_0 hb1)
  have hd1 := Aside0.mk (cellS69_1 hb1)
  have hd2 := Aside0.mk (cellS69_2 hb1)
  have hf2 : Aside0 ((w.setCell ⟨g, 1, none⟩ (.int .i64 p)).frozen? ⟨g, 2, none⟩ = false) := Aside0.mk (by rw [World.frozen?, hb1]; rfl)
  have HI := Aside0.mk hI1
  have b1 : decide (p ≤ (s0_0.length : Int)) = false := decide_eq_false c1
  have b2 : decide (3000 < p) = true := decide_eq_true c2
  clear hI hI1 hB hg hr hb1 hg1 hr1 c1 c2
  go_enter Try.func96, Try.ntmps96
  go_wp2_with fail
  clear hc1 hf1
  generalize w.setCell ⟨g, 1, none⟩ (.int .i64 p) = w1 at *
  replace hd0 := hd0.out
  replace hd1 := hd1.out
  replace hd2 := hd2.out
  replace hf2 := hf2.out
  go_quiet (fail)
  go_wp2_with fail
  go_ret
  exact ⟨by first | rfl | (simp; done) | (simp [*]; done), by repeat (first | exact HI.out | apply IsS69.drewN | apply IsS69.drew | apply IsS69.set_2), by repeat (first | exact HB.out | apply pw_below_drewN | apply below_drew1 | refine below_set ?_ HG.out), by repeat (first | exact HK.out | apply keep_drewN | apply keep_drew | apply KeepBut.set_)⟩
set_option maxHeartbeats 8000000 in
set_option maxRecDepth 100000 in
theorem spec_l00Src_byte.three (g : Nat) (s0_0 : List Int) (s0_1 : Int) (s0_2 : Int) (w0 w : World) (hI : IsS69 w0 w g s0_0 s0_1 s0_2) (hB : Below w0.heap.size w0 w) (p : Int) (hp : wrap64 (s0_1 + 1) = p) (c1 : ¬ p ≤ (s0_0.length : Int)) (c2 : ¬ p > 3000) (q : Int) (hq : Int.tmod (wrap64 (wrap64 (s0_2 * 1103515245) + 12345)) 2147483648 = q) :
    Calls Try.prog 96 #[.pointer (some ⟨g, 0, none⟩)] w fun e w' => e = .returned (.int .i64 (Int.tmod (wrap64 (Int.tdiv q 65536)) 256)) ∧ IsS69 w0 w' g s0_0 p (q) ∧ Below w0.heap.size w0 w' ∧ KeepBut w w' g none := by
  have hI1 := IsS69.set_1 hI p
  have HG := Aside0.mk (IsS69.ge hI)
  have HB := Aside0.mk (below_set hB (IsS69.ge hI) (v := .int .i64 p) (j := 1))
  have HK := Aside0.mk (KeepBut.set_ (KeepBut.refl w g none) 1 (.int .i64 p))
  obtain ⟨A0, c0, hb, hg, hr⟩ := id hI
  have hc1 := cellS69_1 hb
  have hf1 : w.frozen? ⟨g, 1, none⟩ = false := by simp [World.frozen?, hb]
  clear hb
  obtain ⟨A1, c1', hb1, hg1, hr1⟩ := id hI1
  have hd0 := Aside0.mk (cellS69_0 hb1)
  have hd1 := Aside0.mk (cellS69_1 hb1)
  have hd2 := Aside0.mk (cellS69_2 hb1)
  have hf2 : Aside0 ((w.setCell ⟨g, 1, none⟩ (.int .i64 p)).frozen? ⟨g, 2, none⟩ = false) := Aside0.mk (by rw [World.frozen?, hb1]; rfl)
  have HI := Aside0.mk hI1
  have b1 : decide (p ≤ (s0_0.length : Int)) = false := decide_eq_false c1
  have b2 : decide (3000 < p) = false := decide_eq_false c2
  clear hI hI1 hB hg hr hb1 hg1 hr1 c1 c2
  go_enter Try.func96, Try.ntmps96
  go_wp2_with fail
  clear hc1 hf1
  generalize w.setCell ⟨g, 1, none⟩ (.int .i64 p) = w1 at *
  replace hd0 := hd0.out
  replace hd1 := hd1.out
  replace hd2 := hd2.out
  replace hf2 := hf2.out
  go_quiet (fail)
  go_wp2_with fail
  go_ret
  exact ⟨by first | rfl | (simp; done) | (simp [*]; done), by repeat (first | exact HI.out | apply IsS69.drewN | apply IsS69.drew | apply IsS69.set_2), by repeat (first | exact HB.out | apply pw_below_drewN | apply below_drew1 | refine below_set ?_ HG.out), by repeat (first | exact HK.out | apply keep_drewN | apply keep_drew | apply KeepBut.set_)⟩
set_option maxHeartbeats 8000000 in
set_option maxRecDepth 100000 in
theorem spec_l00Src_byte.one (g : Nat) (s0_0 : List Int) (s0_1 : Int) (s0_2 : Int) (w0 w : World) (hI : IsS69 w0 w g s0_0 s0_1 s0_2) (hB : Below w0.heap.size w0 w) (p : Int) (hp : wrap64 (s0_1 + 1) = p) (c1 : p ≤ (s0_0.length : Int)) (m : Int) (hm : wrap64 (p - 1) = m) (c2 : 0 ≤ m) (c3 : m < (s0_0.length : Int)) (q : Int) (hq : Int.tmod (wrap64 (wrap64 (wrap64 (s0_2 * 31) + wrap64 (rd s0_0 m)) + 7)) 2147483648 = q) :
    Calls Try.prog 96 #[.pointer (some ⟨g, 0, none⟩)] w fun e w' => e = .returned (.int .i64 (wrap64 (rd s0_0 m))) ∧ IsS69 w0 w' g s0_0 p (q) ∧ Below w0.heap.size w0 w' ∧ KeepBut w w' g none := by
  have hI1 := IsS69.set_1 hI p
  have HG := Aside0.mk (IsS69.ge hI)
  have HB := Aside0.mk (below_set hB (IsS69.ge hI) (v := .int .i64 p) (j := 1))
  have HK := Aside0.mk (KeepBut.set_ (KeepBut.refl w g none) 1 (.int .i64 p))
  obtain ⟨A0, c0, hb, hg, hr⟩ := id hI
  have hc1 := cellS69_1 hb
  have hf1 : w.frozen? ⟨g, 1, none⟩ = false := by simp [World.frozen?, hb]
  clear hb
  obtain ⟨A1, c1', hb1, hg1, hr1⟩ := id hI1
  have hd0 := Aside0.mk (cellS69_0 hb1)
  have hd1 := Aside0.mk (cellS69_1 hb1)
  have hd2 := Aside0.mk (cellS69_2 hb1)
  have hf2 : Aside0 ((w.setCell ⟨g, 1, none⟩ (.int .i64 p)).frozen? ⟨g, 2, none⟩ = false) := Aside0.mk (by rw [World.frozen?, hb1]; rfl)
  have HI := Aside0.mk hI1
  obtain ⟨ad, rfl, hx⟩ := Kd.at_int hr1 m c2 c3
  have hx1 := Aside0.mk (pw_cell_below HB.out hx)
  have HX := Aside0.mk hx
  have b1 : decide (p ≤ (s0_0.length : Int)) = true := decide_eq_true c1
  have b2 : decide (0 ≤ m) = true := decide_eq_true c2
  have b3 : decide (m < (s0_0.length : Int)) = true := decide_eq_true c3
  clear hI hI1 hB hg hr hb1 hg1 hr1 hx c1
  go_enter Try.func96, Try.ntmps96
  go_wp2_with fail
  clear hc1 hf1
  generalize w.setCell ⟨g, 1, none⟩ (.int .i64 p) = w1 at *
  replace hd0 := hd0.out
  replace hd1 := hd1.out
  replace hd2 := hd2.out
  replace hf2 := hf2.out
  replace hx1 := hx1.out
  go_quiet (fail)
  go_wp2_with fail
  have g0 : (w1.drewN nq).drew.cell? ⟨g, 0, none⟩ = _ := hd0
  have g1 : (w1.drewN nq).drew.cell? ⟨g, 1, none⟩ = _ := hd1
  have g2 : (w1.drewN nq).drew.cell? ⟨g, 2, none⟩ = _ := hd2
  have g3 : (w1.drewN nq).drew.frozen? ⟨g, 2, none⟩ = _ := hf2
  have g4 : (w1.drewN nq).drew.cell? (ad.add m.toNat) = _ := hx1
  have HI2 : Aside0 (IsS69 w0 (w1.drewN nq).drew g s0_0 p s0_2) := Aside0.mk HI.out
  have HB2 : Aside0 (Below w0.heap.size w0 (w1.drewN nq).drew) := Aside0.mk (below_drew1 (pw_below_drewN HB.out nq))
  have HK2 : Aside0 (KeepBut w (w1.drewN nq).drew g none) := Aside0.mk HK.out
  clear hd0 hd1 hd2 hf2 hx1 HI HB HK
  refine wp_region_still_tail 23 (by kernel_rfl) (by kernel_rfl) ?_
  simp only [List.take_succ_cons, List.take_zero, List.drop_succ_cons, List.drop_zero]
  change wpStill _ _ (w1.drewN nq).drew (fun a' => wpList _ _ _ _ a' (w1.drewN nq).drew) _ _
  generalize (w1.drewN nq).drew = w2 at *
  have hm' : IntKind.i64.wrap (p - 1) = m := (i64_w _).trans hm
  have hq' : Int.tmod (IntKind.i64.wrap (IntKind.i64.wrap (IntKind.i64.wrap (s0_2 * 31) + IntKind.i64.wrap (rd s0_0 m)) + 7)) 2147483648 = q := by rw [i64_w, i64_w, i64_w, i64_w]; exact hq
  repeat still_step
  refine wpStill_nil ?_
  have HI3 := IsS69.set_2 HI2.out q
  have HB3 := Aside0.mk (below_set HB2.out HG.out (v := .int .i64 q) (j := 2))
  have HK3 := Aside0.mk (KeepBut.set_ HK2.out 2 (.int .i64 q))
  have k4 := Aside0.mk (pw_cell_below HB3.out HX.out)
  obtain ⟨A2, c2', hb2, hg2, hr2⟩ := id HI3
  have k0 := Aside0.mk (cellS69_0 hb2)
  have k1 := Aside0.mk (cellS69_1 hb2)
  obtain ⟨ad2, ea2, hx2⟩ := Kd.at_int hr2 m (of_decide_eq_true b2) (of_decide_eq_true b3)
  have k5 := Aside0.mk (pw_cell_below HB3.out hx2)
  replace HI3 := Aside0.mk HI3
  clear HI2 HB2 HK2 hb2 hg2 hr2 hx2
  subst ea2
  go_wp2_with fail
  clear g0 g1 g2 g3 g4
  generalize w2.setCell ⟨g, 2, none⟩ (.int .i64 q) = w3 at *
  replace k0 := k0.out
  replace k1 := k1.out
  replace k5 := k5.out
  clear k4
  go_quiet (fail)
  go_wp2
  go_ret
  exact ⟨by first | rfl | (simp; done) | (simp [*]; done), by repeat (first | exact HI3.out | apply IsS69.drewN | apply IsS69.drew | apply IsS69.set_2), by repeat (first | exact HB3.out | apply pw_below_drewN | apply below_drew1 | refine below_set ?_ HG.out), by repeat (first | exact HK3.out | apply keep_drewN | apply keep_drew | apply KeepBut.set_)⟩
theorem spec_l00Src_byte.calls (g : Nat) (s0_0 : List Int) (s0_1 : Int) (s0_2 : Int) (r1 : Int) (r2 : Int) (r3 : Int) (w0 w : World) (hI : IsS69 w0 w g s0_0 s0_1 s0_2) (hB : Below w0.heap.size w0 w) (h : spec_l00Src_byte.f s0_0 s0_1 s0_2 = some (r1, r2, r3)) :
    Calls Try.prog 96 #[.pointer (some ⟨g, 0, none⟩)] w fun e w' => e = .returned (.int .i64 r1) ∧ IsS69 w0 w' g s0_0 r2 r3 ∧ Below w0.heap.size w0 w' ∧ KeepBut w w' g none := by
  unfold spec_l00Src_byte.f at h
  by_cases c1 : wrap64 (s0_1 + 1) ≤ (s0_0.length : Int)
  · rw [if_pos c1] at h
    by_cases c2 : 0 ≤ wrap64 (wrap64 (s0_1 + 1) - 1)
    · rw [if_pos c2] at h
      by_cases c3 : wrap64 (wrap64 (s0_1 + 1) - 1) < (s0_0.length : Int)
      · rw [if_pos c3] at h
        simp only [Option.some.injEq, Prod.mk.injEq] at h
        obtain ⟨rfl, rfl, rfl⟩ := h
        exact spec_l00Src_byte.one g s0_0 s0_1 s0_2 w0 w hI hB _ rfl c1 _ rfl c2 c3 _ rfl
      · rw [if_neg c3] at h
        exact absurd h (by simp)
    · rw [if_neg c2] at h
      exact absurd h (by simp)
  · rw [if_neg c1] at h
    by_cases c2 : wrap64 (s0_1 + 1) > 3000
    · rw [if_pos c2] at h
      simp only [Option.some.injEq, Prod.mk.injEq] at h
      obtain ⟨rfl, rfl, rfl⟩ := h
      exact spec_l00Src_byte.two g s0_0 s0_1 s0_2 w0 w hI hB _ rfl c1 c2
    · rw [if_neg c2] at h
      simp only [Option.some.injEq, Prod.mk.injEq] at h
      obtain ⟨rfl, rfl, rfl⟩ := h
      exact spec_l00Src_byte.three g s0_0 s0_1 s0_2 w0 w hI hB _ rfl c1 c2 _ rfl


end Go.Proofs.Ytdljhgmgpnpfiaa.PFnShifts
