-- Written for this claim by the session's own program, out of the translation. Not trusted: Lean checks it.
import Derived.Test.YtdljhgmgpnpfiaaPFnShiftsx0
import Derived.Test.YtdljhgmgpnpfiaaPFnShiftsx2
import Derived.Test.YtdljhgmgpnpfiaaPFnShiftsx3
import Derived.Test.YtdljhgmgpnpfiaaPFnShiftsx4
namespace Go.Proofs.Ytdljhgmgpnpfiaa.PFnShifts
open Go.RowKit Go.Proofs.YtdljhgmgpnpfiaaW.PrintWords Go.Proofs.YtdljhgmgpnpfiaaW.PrintLast Go.Proofs.YtdljhgmgpnpfiaaW.PrintMore
attribute [local go_sem] max2_int min2_int max_two min_two max_three min_three max_four min_four   -- for this text's walks alone
set_option linter.unusedVariables false
set_option linter.unusedSimpArgs false

/-! ### laws_FnShifts: function 8 -/
mutual
def laws_FnShifts.j0 : Nat → List Int → List Int → Bool → Option (Bool)
  | 0, _, _, _ => none
  | k + 1, x0, x1, x53 => if x53 = true then (some true) else ((spec_NumberOf.f x0).bind fun t254 => ((laws_sizeAt.f x1 0).bind fun t255 => ((spec_FlagsDrawn.f k x1).bind fun t256 => ((laws_at.f x1 1 5).bind fun t257 => ((laws_at.f x1 2 20).bind fun t258 => ((impl_Shift.f k (wrap64 (20 + t257)) t255 t254 t258 t256).bind fun bt259 => ((spec_Shift.f k (wrap64 (20 + t257)) t255 t254 t258 t256).bind fun bt262 => ((spec_ZeroOf.f k t254 t255).bind fun bt265 => (laws_FnShifts.l0 k t254 t255 t256 (wrap64 (20 + t257)) t258 bt259.1 bt259.2.1 bt259.2.2 bt262.1 bt262.2.1 bt265.1 bt265.1 t256 0)))))))))
def laws_FnShifts.l0 : Nat → Int → Int → Int → Int → Int → Int → Int → Int → Int → Int → Int → Int → Int → Int → Option (Bool)
  | 0, _, _, _, _, _, _, _, _, _, _, _, _, _, _ => none
  | k + 1, x5, x6, x7, x8, x9, x10, x11, x12, x13, x14, x16, x18, x19, x20 => if x20 < x9 then ((impl_Shift.f k x8 x6 x18 1 x19).bind fun bt267 => (if bt267.2.2 = 0 then (laws_FnShifts.l0 k x5 x6 x7 x8 x9 x10 x11 x12 x13 x14 x16 bt267.1 bt267.2.1 (wrap64 (x20 + 1))) else (some false))) else (if x12 = 0 then (if x10 = x13 then (if x11 = x14 then (if x18 = x10 then (laws_FnShifts.j2 k x5 x6 x7 x8 x9 x16 (x19 != x11)) else (laws_FnShifts.j2 k x5 x6 x7 x8 x9 x16 true)) else (laws_FnShifts.j2 k x5 x6 x7 x8 x9 x16 true)) else (laws_FnShifts.j2 k x5 x6 x7 x8 x9 x16 true)) else (laws_FnShifts.j2 k x5 x6 x7 x8 x9 x16 true))
def laws_FnShifts.j2 : Nat → Int → Int → Int → Int → Int → Int → Bool → Option (Bool)
  | 0, _, _, _, _, _, _, _ => none
  | k + 1, x5, x6, x7, x8, x9, x16, x132 => if x132 = true then (some false) else (laws_FnShifts.l1 k x5 x6 x7 x8 x9 x16 x16 0)
def laws_FnShifts.l1 : Nat → Int → Int → Int → Int → Int → Int → Int → Int → Option (Bool)
  | 0, _, _, _, _, _, _, _, _ => none
  | k + 1, x5, x6, x7, x8, x9, x16, x24, x25 => if x25 < (wrap64 (8 * x6)) then ((impl_Shift.f k 20 x6 x24 1 x7).bind fun bt270 => (if bt270.2.2 = 0 then (laws_FnShifts.l1 k x5 x6 x7 x8 x9 x16 bt270.1 (wrap64 (x25 + 1))) else (some false))) else ((impl_Shift.f k 21 x6 x16 3 x7).bind fun bt273 => ((impl_Shift.f k 20 x6 bt273.1 3 bt273.2.1).bind fun bt276 => ((spec_ZeroOf.f k x5 1).bind fun bt279 => ((impl_Shift.f k 22 8 bt279.1 x9 x7).bind fun bt281 => ((impl_Shift.f k 23 8 bt281.1 x9 x7).bind fun bt284 => ((impl_Shift.f k x8 x6 x5 64 x7).bind fun bt287 => (if x24 = x16 then (if bt273.2.2 = 0 then (if bt276.2.2 = 0 then (if bt276.1 = x16 then (if bt281.2.2 = 0 then (if bt284.2.2 = 0 then (if bt284.1 = bt279.1 then (if bt287.2.2 = 0 then (some (bt287.2.1 == x7)) else (some false)) else (some false)) else (some false)) else (some false)) else (some false)) else (some false)) else (some false)) else (some false))))))))
end
def laws_FnShifts.f (k : Nat) (l0 : List Int) (l1 : List Int) : Option (Bool) := if (l0.length : Int) > 1048576 then (laws_FnShifts.j0 k l0 l1 true) else (laws_FnShifts.j0 k l0 l1 (decide ((l1.length : Int) > 1048576)))
theorem laws_FnShifts.mono_l : ∀ k, (∀ y0 y1 y2, LeO (laws_FnShifts.j0 k y0 y1 y2) (laws_FnShifts.j0 (k + 1) y0 y1 y2)) ∧ (∀ y0 y1 y2 y3 y4 y5 y6 y7 y8 y9 y10 y11 y12 y13, LeO (laws_FnShifts.l0 k y0 y1 y2 y3 y4 y5 y6 y7 y8 y9 y10 y11 y12 y13) (laws_FnShifts.l0 (k + 1) y0 y1 y2 y3 y4 y5 y6 y7 y8 y9 y10 y11 y12 y13)) ∧ (∀ y0 y1 y2 y3 y4 y5 y6, LeO (laws_FnShifts.j2 k y0 y1 y2 y3 y4 y5 y6) (laws_FnShifts.j2 (k + 1) y0 y1 y2 y3 y4 y5 y6)) ∧ (∀ y0 y1 y2 y3 y4 y5 y6 y7, LeO (laws_FnShifts.l1 k y0 y1 y2 y3 y4 y5 y6 y7) (laws_FnShifts.l1 (k + 1) y0 y1 y2 y3 y4 y5 y6 y7))
  | 0 => ⟨fun _ _ _ r h => by simp [laws_FnShifts.j0] at h, fun _ _ _ _ _ _ _ _ _ _ _ _ _ _ r h => by simp [laws_FnShifts.l0] at h, fun _ _ _ _ _ _ _ r h => by simp [laws_FnShifts.j2] at h, fun _ _ _ _ _ _ _ _ r h => by simp [laws_FnShifts.l1] at h⟩
  | k + 1 => by
    obtain ⟨ih0, ih1, ih2, ih3⟩ := laws_FnShifts.mono_l k
    refine ⟨?_, ?_, ?_, ?_⟩
    · intro y0 y1 y2
      unfold laws_FnShifts.j0
      repeat' first
      | (with_reducible exact ih0 _ _ _)
      | (with_reducible exact ih1 _ _ _ _ _ _ _ _ _ _ _ _ _ _)
      | (with_reducible exact ih2 _ _ _ _ _ _ _)
      | (with_reducible exact ih3 _ _ _ _ _ _ _ _)
      | (with_reducible exact impl_Shift.mono _ _ _ _ _ _)
      | (with_reducible exact spec_FlagsDrawn.mono _ _)
      | (with_reducible exact spec_Shift.mono _ _ _ _ _ _)
      | (with_reducible exact spec_ZeroOf.mono _ _ _)
      | (with_reducible exact LeO.refl _)
      | (with_reducible exact LeO.none _)
      | (with_reducible refine LeO.ite ?_ ?_)
      | (with_reducible refine LeO.bind ?_ (fun _ => ?_))
      | exact ih0 _ _ _
      | exact ih1 _ _ _ _ _ _ _ _ _ _ _ _ _ _
      | exact ih2 _ _ _ _ _ _ _
      | exact ih3 _ _ _ _ _ _ _ _
      | exact impl_Shift.mono _ _ _ _ _ _
      | exact spec_FlagsDrawn.mono _ _
      | exact spec_Shift.mono _ _ _ _ _ _
      | exact spec_ZeroOf.mono _ _ _
      | exact LeO.none _
      | refine LeO.ite ?_ ?_
      | refine LeO.bind ?_ (fun _ => ?_)
    · intro y0 y1 y2 y3 y4 y5 y6 y7 y8 y9 y10 y11 y12 y13
      unfold laws_FnShifts.l0
      repeat' first
      | (with_reducible exact ih0 _ _ _)
      | (with_reducible exact ih1 _ _ _ _ _ _ _ _ _ _ _ _ _ _)
      | (with_reducible exact ih2 _ _ _ _ _ _ _)
      | (with_reducible exact ih3 _ _ _ _ _ _ _ _)
      | (with_reducible exact impl_Shift.mono _ _ _ _ _ _)
      | (with_reducible exact spec_FlagsDrawn.mono _ _)
      | (with_reducible exact spec_Shift.mono _ _ _ _ _ _)
      | (with_reducible exact spec_ZeroOf.mono _ _ _)
      | (with_reducible exact LeO.refl _)
      | (with_reducible exact LeO.none _)
      | (with_reducible refine LeO.ite ?_ ?_)
      | (with_reducible refine LeO.bind ?_ (fun _ => ?_))
      | exact ih0 _ _ _
      | exact ih1 _ _ _ _ _ _ _ _ _ _ _ _ _ _
      | exact ih2 _ _ _ _ _ _ _
      | exact ih3 _ _ _ _ _ _ _ _
      | exact impl_Shift.mono _ _ _ _ _ _
      | exact spec_FlagsDrawn.mono _ _
      | exact spec_Shift.mono _ _ _ _ _ _
      | exact spec_ZeroOf.mono _ _ _
      | exact LeO.none _
      | refine LeO.ite ?_ ?_
      | refine LeO.bind ?_ (fun _ => ?_)
    · intro y0 y1 y2 y3 y4 y5 y6
      unfold laws_FnShifts.j2
      repeat' first
      | (with_reducible exact ih0 _ _ _)
      | (with_reducible exact ih1 _ _ _ _ _ _ _ _ _ _ _ _ _ _)
      | (with_reducible exact ih2 _ _ _ _ _ _ _)
      | (with_reducible exact ih3 _ _ _ _ _ _ _ _)
      | (with_reducible exact impl_Shift.mono _ _ _ _ _ _)
      | (with_reducible exact spec_FlagsDrawn.mono _ _)
      | (with_reducible exact spec_Shift.mono _ _ _ _ _ _)
      | (with_reducible exact spec_ZeroOf.mono _ _ _)
      | (with_reducible exact LeO.refl _)
      | (with_reducible exact LeO.none _)
      | (with_reducible refine LeO.ite ?_ ?_)
      | (with_reducible refine LeO.bind ?_ (fun _ => ?_))
      | exact ih0 _ _ _
      | exact ih1 _ _ _ _ _ _ _ _ _ _ _ _ _ _
      | exact ih2 _ _ _ _ _ _ _
      | exact ih3 _ _ _ _ _ _ _ _
      | exact impl_Shift.mono _ _ _ _ _ _
      | exact spec_FlagsDrawn.mono _ _
      | exact spec_Shift.mono _ _ _ _ _ _
      | exact spec_ZeroOf.mono _ _ _
      | exact LeO.none _
      | refine LeO.ite ?_ ?_
      | refine LeO.bind ?_ (fun _ => ?_)
    · intro y0 y1 y2 y3 y4 y5 y6 y7
      unfold laws_FnShifts.l1
      repeat' first
      | (with_reducible exact ih0 _ _ _)
      | (with_reducible exact ih1 _ _ _ _ _ _ _ _ _ _ _ _ _ _)
      | (with_reducible exact ih2 _ _ _ _ _ _ _)
      | (with_reducible exact ih3 _ _ _ _ _ _ _ _)
      | (with_reducible exact impl_Shift.mono _ _ _ _ _ _)
      | (with_reducible exact spec_FlagsDrawn.mono _ _)
      | (with_reducible exact spec_Shift.mono _ _ _ _ _ _)
      | (with_reducible exact spec_ZeroOf.mono _ _ _)
      | (with_reducible exact LeO.refl _)
      | (with_reducible exact LeO.none _)
      | (with_reducible refine LeO.ite ?_ ?_)
      | (with_reducible refine LeO.bind ?_ (fun _ => ?_))
      | exact ih0 _ _ _
      | exact ih1 _ _ _ _ _ _ _ _ _ _ _ _ _ _
      | exact ih2 _ _ _ _ _ _ _
      | exact ih3 _ _ _ _ _ _ _ _
      | exact impl_Shift.mono _ _ _ _ _ _
      | exact spec_FlagsDrawn.mono _ _
      | exact spec_Shift.mono _ _ _ _ _ _
      | exact spec_ZeroOf.mono _ _ _
      | exact LeO.none _
      | refine LeO.ite ?_ ?_
      | refine LeO.bind ?_ (fun _ => ?_)
theorem laws_FnShifts.mono : ∀ a0 a1 k, LeO (laws_FnShifts.f k a0 a1) (laws_FnShifts.f (k + 1) a0 a1) := by
  intro a0 a1 k
  obtain ⟨ih0, ih1, ih2, ih3⟩ := laws_FnShifts.mono_l k
  unfold laws_FnShifts.f
  repeat' first
      | (with_reducible exact ih0 _ _ _)
      | (with_reducible exact ih1 _ _ _ _ _ _ _ _ _ _ _ _ _ _)
      | (with_reducible exact ih2 _ _ _ _ _ _ _)
      | (with_reducible exact ih3 _ _ _ _ _ _ _ _)
      | (with_reducible exact impl_Shift.mono _ _ _ _ _ _)
      | (with_reducible exact spec_FlagsDrawn.mono _ _)
      | (with_reducible exact spec_Shift.mono _ _ _ _ _ _)
      | (with_reducible exact spec_ZeroOf.mono _ _ _)
      | (with_reducible exact LeO.refl _)
      | (with_reducible exact LeO.none _)
      | (with_reducible refine LeO.ite ?_ ?_)
      | (with_reducible refine LeO.bind ?_ (fun _ => ?_))
      | exact ih0 _ _ _
      | exact ih1 _ _ _ _ _ _ _ _ _ _ _ _ _ _
      | exact ih2 _ _ _ _ _ _ _
      | exact ih3 _ _ _ _ _ _ _ _
      | exact impl_Shift.mono _ _ _ _ _ _
      | exact spec_FlagsDrawn.mono _ _
      | exact spec_Shift.mono _ _ _ _ _ _
      | exact spec_ZeroOf.mono _ _ _
      | exact LeO.none _
      | refine LeO.ite ?_ ?_
      | refine LeO.bind ?_ (fun _ => ?_)
set_option maxHeartbeats 8000000 in
set_option maxRecDepth 100000 in
theorem laws_FnShifts.calls (k : Nat) (A0 : Option Addr) (c0 : Nat) (l0 : List Int) (A1 : Option Addr) (c1 : Nat) (l1 : List Int) (r : Bool) (w : World) (hr0 : Kd.C (Kd.int .u8) w A0 l0.length l0) (hc0 : l0.length ≤ c0) (hr1 : Kd.C (Kd.int .u8) w A1 l1.length l1) (hc1 : l1.length ≤ c1) (h : laws_FnShifts.f k l0 l1 = some r) :
    Calls Try.prog 8 #[.slice A0 l0.length c0, .slice A1 l1.length c1] w fun e w' => e = .returned (.bool r) ∧ Below w.heap.size w w' := by
  have HR0 := Aside0.mk hr0
  have HC0 := Aside0.mk hc0
  clear hr0 hc0
  have HR1 := Aside0.mk hr1
  have HC1 := Aside0.mk hc1
  clear hr1 hc1
  have HB := Aside0.mk (Below.refl w.heap.size w)
  have H : (if (l0.length : Int) > 1048576 then (laws_FnShifts.j0 k l0 l1 true) else (laws_FnShifts.j0 k l0 l1 (decide ((l1.length : Int) > 1048576)))) = some r := h
  clear h
  have HC3 := Aside0.mk H
  clear H
  go_enter Try.func8, Try.ntmps8
  go_upto_region 1 with (fail)
  go_cut [53] (fun v53 wc => ∃ (kq : Nat) (x53_2 : Bool), v53 = .bool x53_2 ∧ Aside0 (laws_FnShifts.j0 kq l0 l1 x53_2 = some r) ∧ Aside0 (kq ≤ k) ∧ Aside0 (Below w.heap.size w wc))
  case first =>
    have H := HC3.out
    clear HC3
    by_cases c4 : (l0.length : Int) > 1048576
    · rw [if_pos c4] at H
      have c4b0 : decide (1048576 < (l0.length : Int)) = true := decide_eq_true c4
      have c4b1 : decide (1048576 < l0.length) = true := decide_eq_true (by omega)
      clear c4
      (first | rw [c4b0] | (simp only [i64_w, i32_w]; rw [c4b0]) | skip)
      as_aux_lemma =>
        have H' := Aside0.mk H
        clear H
        go_wp2
        go_meet
        case rel => exact ⟨_, (true), (by first | rfl | (simp; done) | (simp [*]; done)), H', ⟨by first | omega | exact Nat.le_refl _⟩, ⟨by repeat (first | (with_reducible first | exact HB.out | apply below_alloc | apply pw_below_drewN | apply below_drew1) | exact HB.out)⟩⟩
    · rw [if_neg c4] at H
      have c4b0 : decide (1048576 < (l0.length : Int)) = false := decide_eq_false c4
      have c4b1 : decide (1048576 < l0.length) = false := decide_eq_false (by omega)
      clear c4
      (first | rw [c4b0] | (simp only [i64_w, i32_w]; rw [c4b0]) | skip)
      as_aux_lemma =>
        have H' := Aside0.mk H
        clear H
        go_wp2
        go_meet
        case rel => exact ⟨_, (decide ((l1.length : Int) > 1048576)), (by first | rfl | (simp; done) | (simp [*]; done)), H', ⟨by first | omega | exact Nat.le_refl _⟩, ⟨by repeat (first | (with_reducible first | exact HB.out | apply below_alloc | apply pw_below_drewN | apply below_drew1) | exact HB.out)⟩⟩
  case rest =>
    clear HC3
    try clear c1
    try clear p2
    try clear c4
    try clear c4b0
    try clear c4b1
    obtain ⟨kq, x53_2, rfl, HA, HJ2, HB⟩ := hcut
    cases kq with
    | zero => exact absurd HA.out (by simp [laws_FnShifts.j0])
    | succ kj2 =>
      have H := HA.out
      clear HA
      simp only [laws_FnShifts.j0] at H
      by_cases c5 : x53_2 = true
      · subst c5
        have H1 : (some true) = some r := by rw [if_pos rfl] at H; exact H
        clear H
        have H := H1
        clear H1
        as_aux_lemma =>
          obtain rfl := Option.some.inj H
          go_wp2
          go_ret
          exact ⟨by first | rfl | (simp [errW_none, errW_some] <;> rfl) | (simp [*, errW_none, errW_some] <;> rfl), by repeat (first | (with_reducible first | exact HB.out | apply below_alloc | apply pw_below_drewN | apply below_drew1) | exact HB.out)⟩
      · replace c5 := Bool.eq_false_iff.mpr c5
        subst c5
        have H1 : ((spec_NumberOf.f l0).bind fun t254 => ((laws_sizeAt.f l1 0).bind fun t255 => ((spec_FlagsDrawn.f kj2 l1).bind fun t256 => ((laws_at.f l1 1 5).bind fun t257 => ((laws_at.f l1 2 20).bind fun t258 => ((impl_Shift.f kj2 (wrap64 (20 + t257)) t255 t254 t258 t256).bind fun bt259 => ((spec_Shift.f kj2 (wrap64 (20 + t257)) t255 t254 t258 t256).bind fun bt262 => ((spec_ZeroOf.f kj2 t254 t255).bind fun bt265 => (laws_FnShifts.l0 kj2 t254 t255 t256 (wrap64 (20 + t257)) t258 bt259.1 bt259.2.1 bt259.2.2 bt262.1 bt262.2.1 bt265.1 bt265.1 t256 0))))))))) = some r := by rw [if_neg (show ¬ (false = true) by decide)] at H; exact H
        clear H
        have H := H1
        clear H1
        replace H := Option.bind_eq_some_iff.mp H
        obtain ⟨t254, A60, H⟩ := H
        replace H : ((laws_sizeAt.f l1 0).bind fun t255 => ((spec_FlagsDrawn.f kj2 l1).bind fun t256 => ((laws_at.f l1 1 5).bind fun t257 => ((laws_at.f l1 2 20).bind fun t258 => ((impl_Shift.f kj2 (wrap64 (20 + t257)) t255 t254 t258 t256).bind fun bt259 => ((spec_Shift.f kj2 (wrap64 (20 + t257)) t255 t254 t258 t256).bind fun bt262 => ((spec_ZeroOf.f kj2 t254 t255).bind fun bt265 => (laws_FnShifts.l0 kj2 t254 t255 t256 (wrap64 (20 + t257)) t258 bt259.1 bt259.2.1 bt259.2.2 bt262.1 bt262.2.1 bt265.1 bt265.1 t256 0)))))))) = some r := H
        have A6 := Aside0.mk A60
        clear A60
        replace H := Option.bind_eq_some_iff.mp H
        obtain ⟨t255, A70, H⟩ := H
        replace H : ((spec_FlagsDrawn.f kj2 l1).bind fun t256 => ((laws_at.f l1 1 5).bind fun t257 => ((laws_at.f l1 2 20).bind fun t258 => ((impl_Shift.f kj2 (wrap64 (20 + t257)) t255 t254 t258 t256).bind fun bt259 => ((spec_Shift.f kj2 (wrap64 (20 + t257)) t255 t254 t258 t256).bind fun bt262 => ((spec_ZeroOf.f kj2 t254 t255).bind fun bt265 => (laws_FnShifts.l0 kj2 t254 t255 t256 (wrap64 (20 + t257)) t258 bt259.1 bt259.2.1 bt259.2.2 bt262.1 bt262.2.1 bt265.1 bt265.1 t256 0))))))) = some r := H
        have A7 := Aside0.mk A70
        clear A70
        replace H := Option.bind_eq_some_iff.mp H
        obtain ⟨t256, A80, H⟩ := H
        replace H : ((laws_at.f l1 1 5).bind fun t257 => ((laws_at.f l1 2 20).bind fun t258 => ((impl_Shift.f kj2 (wrap64 (20 + t257)) t255 t254 t258 t256).bind fun bt259 => ((spec_Shift.f kj2 (wrap64 (20 + t257)) t255 t254 t258 t256).bind fun bt262 => ((spec_ZeroOf.f kj2 t254 t255).bind fun bt265 => (laws_FnShifts.l0 kj2 t254 t255 t256 (wrap64 (20 + t257)) t258 bt259.1 bt259.2.1 bt259.2.2 bt262.1 bt262.2.1 bt265.1 bt265.1 t256 0)))))) = some r := H
        have A8 := Aside0.mk A80
        clear A80
        replace H := Option.bind_eq_some_iff.mp H
        obtain ⟨t257, A90, H⟩ := H
        replace H : ((laws_at.f l1 2 20).bind fun t258 => ((impl_Shift.f kj2 (wrap64 (20 + t257)) t255 t254 t258 t256).bind fun bt259 => ((spec_Shift.f kj2 (wrap64 (20 + t257)) t255 t254 t258 t256).bind fun bt262 => ((spec_ZeroOf.f kj2 t254 t255).bind fun bt265 => (laws_FnShifts.l0 kj2 t254 t255 t256 (wrap64 (20 + t257)) t258 bt259.1 bt259.2.1 bt259.2.2 bt262.1 bt262.2.1 bt265.1 bt265.1 t256 0))))) = some r := H
        have A9 := Aside0.mk A90
        clear A90
        replace H := Option.bind_eq_some_iff.mp H
        obtain ⟨t258, A100, H⟩ := H
        replace H : ((impl_Shift.f kj2 (wrap64 (20 + t257)) t255 t254 t258 t256).bind fun bt259 => ((spec_Shift.f kj2 (wrap64 (20 + t257)) t255 t254 t258 t256).bind fun bt262 => ((spec_ZeroOf.f kj2 t254 t255).bind fun bt265 => (laws_FnShifts.l0 kj2 t254 t255 t256 (wrap64 (20 + t257)) t258 bt259.1 bt259.2.1 bt259.2.2 bt262.1 bt262.2.1 bt265.1 bt265.1 t256 0)))) = some r := H
        have A10 := Aside0.mk A100
        clear A100
        replace H := Option.bind_eq_some_iff.mp H
        obtain ⟨⟨t259, t260, t261⟩, A110, H⟩ := H
        replace H : ((spec_Shift.f kj2 (wrap64 (20 + t257)) t255 t254 t258 t256).bind fun bt262 => ((spec_ZeroOf.f kj2 t254 t255).bind fun bt265 => (laws_FnShifts.l0 kj2 t254 t255 t256 (wrap64 (20 + t257)) t258 t259 t260 t261 bt262.1 bt262.2.1 bt265.1 bt265.1 t256 0))) = some r := H
        have A11 := Aside0.mk A110
        clear A110
        replace H := Option.bind_eq_some_iff.mp H
        obtain ⟨⟨t262, t263, t264⟩, A120, H⟩ := H
        replace H : ((spec_ZeroOf.f kj2 t254 t255).bind fun bt265 => (laws_FnShifts.l0 kj2 t254 t255 t256 (wrap64 (20 + t257)) t258 t259 t260 t261 t262 t263 bt265.1 bt265.1 t256 0)) = some r := H
        have A12 := Aside0.mk A120
        clear A120
        replace H := Option.bind_eq_some_iff.mp H
        obtain ⟨⟨t265, t266⟩, A130, H⟩ := H
        replace H : (laws_FnShifts.l0 kj2 t254 t255 t256 (wrap64 (20 + t257)) t258 t259 t260 t261 t262 t263 t265 t265 t256 0) = some r := H
        have A13 := Aside0.mk A130
        clear A130
        have H' := Aside0.mk H
        clear H
        go_wp2_with (first | ((with_reducible refine gate_callee (f := 21) rfl ?_); refine goesL_ (some 55) rfl rfl Try.func21 (by kernel_rfl) rfl #[.slice A0 l0.length c0] rfl (by (try simp only [List.map_toArray, List.map_cons, List.map_nil]); first | done | rfl | (simp only [List.length_drop, List.length_take]; rfl)) ?_; (with_reducible refine (spec_NumberOf.calls _ _ l0 t254 _ ?side1 ?side2 A6.out).mono ?_); (case side1 => repeat (first | exact (Kd.C_below HR0.out HB.out) | (with_reducible refine Kd.C_alloc ?_ _) | (with_reducible refine Kd.C_drewN ?_ _) | (with_reducible refine Kd.C_drew ?_))); (case side2 => exact HC0.out); rintro e w14 ⟨rfl, hb⟩; refine ⟨_, rfl, ?_⟩; have n0_ := Aside0.mk (below_step (by repeat (first | (with_reducible first | exact HB.out | apply below_alloc | apply pw_below_drewN | apply below_drew1) | exact HB.out)) hb); clear HB; have HB := n0_; clear n0_; (try clear hb); (try clear hb2); (try clear hk); (try clear hi)) | ((with_reducible refine gate_callee (f := 22) rfl ?_); refine goesL_ (some 57) rfl rfl Try.func22 (by kernel_rfl) rfl #[.slice A1 l1.length c1, .int .i64 0] rfl (by (try simp only [List.map_toArray, List.map_cons, List.map_nil]); first | done | rfl | (simp only [List.length_drop, List.length_take]; rfl)) ?_; (with_reducible refine (laws_sizeAt.calls _ _ l1 0 t255 _ ?side1 ?side2 A7.out).mono ?_); (case side1 => repeat (first | exact (Kd.C_below HR1.out HB.out) | (with_reducible refine Kd.C_alloc ?_ _) | (with_reducible refine Kd.C_drewN ?_ _) | (with_reducible refine Kd.C_drew ?_))); (case side2 => exact HC1.out); rintro e w15 ⟨rfl, hb⟩; refine ⟨_, rfl, ?_⟩; have n0_ := Aside0.mk (below_step (by repeat (first | (with_reducible first | exact HB.out | apply below_alloc | apply pw_below_drewN | apply below_drew1) | exact HB.out)) hb); clear HB; have HB := n0_; clear n0_; (try clear hb); (try clear hb2); (try clear hk); (try clear hi)) | ((with_reducible refine gate_callee (f := 23) rfl ?_); refine goesL_ (some 59) rfl rfl Try.func23 (by kernel_rfl) rfl #[.slice A1 l1.length c1] rfl (by (try simp only [List.map_toArray, List.map_cons, List.map_nil]); first | done | rfl | (simp only [List.length_drop, List.length_take]; rfl)) ?_; (with_reducible refine (spec_FlagsDrawn.calls kj2 _ _ l1 t256 _ ?side1 ?side2 A8.out).mono ?_); (case side1 => repeat (first | exact (Kd.C_below HR1.out HB.out) | (with_reducible refine Kd.C_alloc ?_ _) | (with_reducible refine Kd.C_drewN ?_ _) | (with_reducible refine Kd.C_drew ?_))); (case side2 => exact HC1.out); rintro e w16 ⟨rfl, hb⟩; refine ⟨_, rfl, ?_⟩; have n0_ := Aside0.mk (below_step (by repeat (first | (with_reducible first | exact HB.out | apply below_alloc | apply pw_below_drewN | apply below_drew1) | exact HB.out)) hb); clear HB; have HB := n0_; clear n0_; (try clear hb); (try clear hb2); (try clear hk); (try clear hi)) | ((with_reducible refine gate_callee (f := 24) rfl ?_); refine goesL_ (some 61) rfl rfl Try.func24 (by kernel_rfl) rfl #[.slice A1 l1.length c1, .int .i64 1, .int .i64 5] rfl (by (try simp only [List.map_toArray, List.map_cons, List.map_nil]); first | done | rfl | (simp only [List.length_drop, List.length_take]; rfl)) ?_; (with_reducible refine (laws_at.calls _ _ l1 1 5 t257 _ ?side1 ?side2 A9.out).mono ?_); (case side1 => repeat (first | exact (Kd.C_below HR1.out HB.out) | (with_reducible refine Kd.C_alloc ?_ _) | (with_reducible refine Kd.C_drewN ?_ _) | (with_reducible refine Kd.C_drew ?_))); (case side2 => exact HC1.out); rintro e w' ⟨rfl, ⟨nd, rfl⟩⟩; refine ⟨_, rfl, ?_⟩) | ((with_reducible refine gate_callee (f := 24) rfl ?_); refine goesL_ (some 64) rfl rfl Try.func24 (by kernel_rfl) rfl #[.slice A1 l1.length c1, .int .i64 2, .int .i64 20] rfl (by (try simp only [List.map_toArray, List.map_cons, List.map_nil]); first | done | rfl | (simp only [List.length_drop, List.length_take]; rfl)) ?_; (with_reducible refine (laws_at.calls _ _ l1 2 20 t258 _ ?side1 ?side2 A10.out).mono ?_); (case side1 => repeat (first | exact (Kd.C_below HR1.out (by repeat (first | (with_reducible first | exact HB.out | apply below_alloc | apply pw_below_drewN | apply below_drew1) | exact HB.out))) | (with_reducible refine Kd.C_alloc ?_ _) | (with_reducible refine Kd.C_drewN ?_ _) | (with_reducible refine Kd.C_drew ?_))); (case side2 => exact HC1.out); rintro e w' ⟨rfl, ⟨nd, rfl⟩⟩; refine ⟨_, rfl, ?_⟩) | ((with_reducible refine gate_callee (f := 14) rfl ?_); refine goesL_ (some 71) rfl rfl Try.func14 (by kernel_rfl) rfl #[.int .i64 (wrap64 (20 + t257)), .int .i64 t255, .int .i64 t254, .int .i64 t258, .int .i64 t256] rfl (by (try simp only [List.map_toArray, List.map_cons, List.map_nil]); first | done | rfl | (simp only [List.length_drop, List.length_take]; rfl)) ?_; (with_reducible refine (impl_Shift.calls kj2 (wrap64 (20 + t257)) t255 t254 t258 t256 t259 t260 t261 _ A11.out).mono ?_); rintro e w' ⟨rfl, ⟨nd, rfl⟩⟩; refine ⟨_, rfl, ?_⟩) | ((with_reducible refine gate_callee (f := 13) rfl ?_); refine goesL_ (some 81) rfl rfl Try.func13 (by kernel_rfl) rfl #[.int .i64 (wrap64 (20 + t257)), .int .i64 t255, .int .i64 t254, .int .i64 t258, .int .i64 t256] rfl (by (try simp only [List.map_toArray, List.map_cons, List.map_nil]); first | done | rfl | (simp only [List.length_drop, List.length_take]; rfl)) ?_; (with_reducible refine (spec_Shift.calls kj2 (wrap64 (20 + t257)) t255 t254 t258 t256 t262 t263 t264 _ A12.out).mono ?_); rintro e w' ⟨rfl, ⟨nd, rfl⟩⟩; refine ⟨_, rfl, ?_⟩) | ((with_reducible refine gate_callee (f := 25) rfl ?_); refine goesL_ (some 88) rfl rfl Try.func25 (by kernel_rfl) rfl #[.int .i64 t254, .int .i64 t255] rfl (by (try simp only [List.map_toArray, List.map_cons, List.map_nil]); first | done | rfl | (simp only [List.length_drop, List.length_take]; rfl)) ?_; (with_reducible refine (spec_ZeroOf.calls kj2 t254 t255 t265 t266 _ A13.out).mono ?_); rintro e w' ⟨rfl, ⟨nd, rfl⟩⟩; refine ⟨_, rfl, ?_⟩))
        go_loopg [18, 19, 20] kj2 (fun kq v18 v19 v20 w' => ∃ (x18_2 : Int) (x19_2 : Int) (x20_2 : Int), v18 = .int .i64 x18_2 ∧ v19 = .int .i64 x19_2 ∧ v20 = .int .i64 x20_2 ∧ Aside0 (laws_FnShifts.l0 kq t254 t255 t256 (wrap64 (20 + t257)) t258 t259 t260 t261 t262 t263 t265 x18_2 x19_2 x20_2 = some r) ∧ Aside0 (kq ≤ kj2) ∧ Aside0 (Below w.heap.size w w'))
        case atStart => exact ⟨(t265), (t256), (0), (by first | rfl | (simp; done) | (simp [*]; done)), (by first | rfl | (simp; done) | (simp [*]; done)), (by first | rfl | (simp; done) | (simp [*]; done)), H', ⟨Nat.le_refl _⟩, ⟨by repeat (first | (with_reducible first | exact HB.out | apply below_alloc | apply pw_below_drewN | apply below_drew1) | exact HB.out)⟩⟩
        case round =>
          clear H'
          try clear c1
          try clear c2
          try clear p2
          try clear c4
          try clear c4b0
          try clear c4b1
          try clear c5
          try clear p6
          try clear c8
          try clear c13
          try clear c14
          try clear p2
          obtain ⟨x18_2, x19_2, x20_2, rfl, rfl, rfl, HA, HK2, HB⟩ := hrel
          cases gk with
          | zero => exact absurd HA.out (by simp [laws_FnShifts.l0])
          | succ k2 =>
            have H := HA.out
            clear HA
            simp only [laws_FnShifts.l0] at H
            by_cases c17 : x20_2 < t258
            · rw [if_pos c17] at H
              have c17b0 : decide (x20_2 < t258) = true := decide_eq_true c17
              clear c17
              replace H := Option.bind_eq_some_iff.mp H
              obtain ⟨⟨t267, t268, t269⟩, A180, H⟩ := H
              replace H : (if t269 = 0 then (laws_FnShifts.l0 k2 t254 t255 t256 (wrap64 (20 + t257)) t258 t259 t260 t261 t262 t263 t265 t267 t268 (wrap64 (x20_2 + 1))) else (some false)) = some r := H
              have A18 := Aside0.mk A180
              clear A180
              by_cases c19 : t269 = 0
              · rw [if_pos c19] at H
                have c19b0 : (t269 == 0) = true := beq_iff_eq.mpr c19
                have c19b1 : (t269 != 0) = false := bne_eq_false_iff_eq.mpr c19
                clear c19
                as_aux_lemma =>
                  have H' := Aside0.mk H
                  clear H
                  go_wp2_with (first | ((with_reducible refine gate_callee (f := 14) rfl ?_); refine goesL_ (some 103) rfl rfl Try.func14 (by kernel_rfl) rfl #[.int .i64 (wrap64 (20 + t257)), .int .i64 t255, .int .i64 x18_2, .int .i64 1, .int .i64 x19_2] rfl (by (try simp only [List.map_toArray, List.map_cons, List.map_nil]); first | done | rfl | (simp only [List.length_drop, List.length_take]; rfl)) ?_; (with_reducible refine (impl_Shift.calls k2 (wrap64 (20 + t257)) t255 x18_2 1 x19_2 t267 t268 t269 _ A18.out).mono ?_); rintro e w' ⟨rfl, ⟨nd, rfl⟩⟩; refine ⟨_, rfl, ?_⟩))
                  go_roundg k2
                  case measure => have := HJ2.out; have := HK2.out; omega
                  case rel => (try rw [c19b0]); (try rw [c19b1]); exact ⟨(t267), (t268), (wrap64 (x20_2 + 1)), (by first | rfl | (simp; done) | (simp [*]; done)), (by first | rfl | (simp; done) | (simp [*]; done)), (by first | rfl | (simp; done) | (simp [*]; done)), H', ⟨by have := HJ2.out; have := HK2.out; omega⟩, ⟨by repeat (first | (with_reducible first | exact HB.out | apply below_alloc | apply pw_below_drewN | apply below_drew1) | exact HB.out)⟩⟩
              · rw [if_neg c19] at H
                have c19b0 : (t269 == 0) = false := beq_eq_false_iff_ne.mpr c19
                have c19b1 : (t269 != 0) = true := bne_iff_ne.mpr c19
                as_aux_lemma =>
                  obtain rfl := Option.some.inj H
                  go_wp2_with (first | ((with_reducible refine gate_callee (f := 14) rfl ?_); refine goesL_ (some 103) rfl rfl Try.func14 (by kernel_rfl) rfl #[.int .i64 (wrap64 (20 + t257)), .int .i64 t255, .int .i64 x18_2, .int .i64 1, .int .i64 x19_2] rfl (by (try simp only [List.map_toArray, List.map_cons, List.map_nil]); first | done | rfl | (simp only [List.length_drop, List.length_take]; rfl)) ?_; (with_reducible refine (impl_Shift.calls k2 (wrap64 (20 + t257)) t255 x18_2 1 x19_2 t267 t268 t269 _ A18.out).mono ?_); rintro e w' ⟨rfl, ⟨nd, rfl⟩⟩; refine ⟨_, rfl, ?_⟩))
                  go_ret
                  exact ⟨by first | rfl | (simp [errW_none, errW_some] <;> rfl) | (simp [*, errW_none, errW_some] <;> rfl), by repeat (first | (with_reducible first | exact HB.out | apply below_alloc | apply pw_below_drewN | apply below_drew1) | exact HB.out)⟩
            · rw [if_neg c17] at H
              have c17b0 : decide (x20_2 < t258) = false := decide_eq_false c17
              clear c17
              have HC20 := Aside0.mk H
              clear H
              go_upto_region 21 with (fail)
              go_cut [132] (fun v132 wc => ∃ (kq : Nat) (x132_19 : Bool), v132 = .bool x132_19 ∧ Aside0 (laws_FnShifts.j2 kq t254 t255 t256 (wrap64 (20 + t257)) t258 t265 x132_19 = some r) ∧ Aside0 (kq ≤ k2) ∧ Aside0 (Below w.heap.size w wc))
              case first =>
                have H := HC20.out
                clear HC20
                by_cases c21 : t261 = 0
                · rw [if_pos c21] at H
                  have c21b0 : (t261 == 0) = true := beq_iff_eq.mpr c21
                  have c21b1 : (t261 != 0) = false := bne_eq_false_iff_eq.mpr c21
                  clear c21
                  (first | rw [c21b0] | (simp only [i64_w, i32_w]; rw [c21b0]) | skip)
                  by_cases c22 : t259 = t262
                  · rw [if_pos c22] at H
                    have c22b0 : (t259 == t262) = true := beq_iff_eq.mpr c22
                    have c22b1 : (t259 != t262) = false := bne_eq_false_iff_eq.mpr c22
                    clear c22
                    by_cases c23 : t260 = t263
                    · rw [if_pos c23] at H
                      have c23b0 : (t260 == t263) = true := beq_iff_eq.mpr c23
                      have c23b1 : (t260 != t263) = false := bne_eq_false_iff_eq.mpr c23
                      clear c23
                      by_cases c24 : x18_2 = t259
                      · rw [if_pos c24] at H
                        have c24b0 : (x18_2 == t259) = true := beq_iff_eq.mpr c24
                        have c24b1 : (x18_2 != t259) = false := bne_eq_false_iff_eq.mpr c24
                        clear c24
                        as_aux_lemma =>
                          have H' := Aside0.mk H
                          clear H
                          go_wp2
                          go_meet
                          case rel => (try rw [c19b0]); (try rw [c19b1]); (try rw [c21b0]); (try rw [c21b1]); (try rw [c22b0]); (try rw [c22b1]); (try rw [c23b0]); (try rw [c23b1]); (try rw [c24b0]); (try rw [c24b1]); exact ⟨_, ((x19_2 != t260)), (by first | rfl | (simp; done) | (simp [*]; done)), H', ⟨by have := HJ2.out; have := HK2.out; first | omega | exact Nat.le_refl _⟩, ⟨by repeat (first | (with_reducible first | exact HB.out | apply below_alloc | apply pw_below_drewN | apply below_drew1) | exact HB.out)⟩⟩
                      · rw [if_neg c24] at H
                        have c24b0 : (x18_2 == t259) = false := beq_eq_false_iff_ne.mpr c24
                        have c24b1 : (x18_2 != t259) = true := bne_iff_ne.mpr c24
                        as_aux_lemma =>
                          have H' := Aside0.mk H
                          clear H
                          go_wp2
                          go_meet
                          case rel => (try rw [c19b0]); (try rw [c19b1]); (try rw [c21b0]); (try rw [c21b1]); (try rw [c22b0]); (try rw [c22b1]); (try rw [c23b0]); (try rw [c23b1]); (try rw [c24b0]); (try rw [c24b1]); exact ⟨_, (true), (by first | rfl | (simp; done) | (simp [*]; done)), H', ⟨by have := HJ2.out; have := HK2.out; first | omega | exact Nat.le_refl _⟩, ⟨by repeat (first | (with_reducible first | exact HB.out | apply below_alloc | apply pw_below_drewN | apply below_drew1) | exact HB.out)⟩⟩
                    · rw [if_neg c23] at H
                      have c23b0 : (t260 == t263) = false := beq_eq_false_iff_ne.mpr c23
                      have c23b1 : (t260 != t263) = true := bne_iff_ne.mpr c23
                      as_aux_lemma =>
                        have H' := Aside0.mk H
                        clear H
                        go_wp2
                        go_meet
                        case rel => (try rw [c19b0]); (try rw [c19b1]); (try rw [c21b0]); (try rw [c21b1]); (try rw [c22b0]); (try rw [c22b1]); (try rw [c23b0]); (try rw [c23b1]); (try rw [c24b0]); (try rw [c24b1]); exact ⟨_, (true), (by first | rfl | (simp; done) | (simp [*]; done)), H', ⟨by have := HJ2.out; have := HK2.out; first | omega | exact Nat.le_refl _⟩, ⟨by repeat (first | (with_reducible first | exact HB.out | apply below_alloc | apply pw_below_drewN | apply below_drew1) | exact HB.out)⟩⟩
                  · rw [if_neg c22] at H
                    have c22b0 : (t259 == t262) = false := beq_eq_false_iff_ne.mpr c22
                    have c22b1 : (t259 != t262) = true := bne_iff_ne.mpr c22
                    as_aux_lemma =>
                      have H' := Aside0.mk H
                      clear H
                      go_wp2
                      go_meet
                      case rel => (try rw [c19b0]); (try rw [c19b1]); (try rw [c21b0]); (try rw [c21b1]); (try rw [c22b0]); (try rw [c22b1]); (try rw [c23b0]); (try rw [c23b1]); (try rw [c24b0]); (try rw [c24b1]); exact ⟨_, (true), (by first | rfl | (simp; done) | (simp [*]; done)), H', ⟨by have := HJ2.out; have := HK2.out; first | omega | exact Nat.le_refl _⟩, ⟨by repeat (first | (with_reducible first | exact HB.out | apply below_alloc | apply pw_below_drewN | apply below_drew1) | exact HB.out)⟩⟩
                · rw [if_neg c21] at H
                  have c21b0 : (t261 == 0) = false := beq_eq_false_iff_ne.mpr c21
                  have c21b1 : (t261 != 0) = true := bne_iff_ne.mpr c21
                  (first | rw [c21b0] | (simp only [i64_w, i32_w]; rw [c21b0]) | skip)
                  as_aux_lemma =>
                    have H' := Aside0.mk H
                    clear H
                    go_wp2
                    go_meet
                    case rel => (try rw [c19b0]); (try rw [c19b1]); (try rw [c21b0]); (try rw [c21b1]); (try rw [c22b0]); (try rw [c22b1]); (try rw [c23b0]); (try rw [c23b1]); (try rw [c24b0]); (try rw [c24b1]); exact ⟨_, (true), (by first | rfl | (simp; done) | (simp [*]; done)), H', ⟨by have := HJ2.out; have := HK2.out; first | omega | exact Nat.le_refl _⟩, ⟨by repeat (first | (with_reducible first | exact HB.out | apply below_alloc | apply pw_below_drewN | apply below_drew1) | exact HB.out)⟩⟩
              case rest =>
                clear HC20
                try clear c1
                try clear c2
                try clear p2
                try clear c4
                try clear c4b0
                try clear c4b1
                try clear c5
                try clear p6
                try clear c8
                try clear c13
                try clear c14
                try clear c17
                try clear c17b0
                try clear c19
                try clear c19b0
                try clear c19b1
                try clear c21
                try clear c21b0
                try clear c21b1
                try clear c22
                try clear c22b0
                try clear c22b1
                try clear c23
                try clear c23b0
                try clear c23b1
                try clear c24
                try clear c24b0
                try clear c24b1
                try clear p2
                try clear p6
                obtain ⟨kq, x132_19, rfl, HA, HJ19, HB⟩ := hcut
                cases kq with
                | zero => exact absurd HA.out (by simp [laws_FnShifts.j2])
                | succ kj19 =>
                  have H := HA.out
                  clear HA
                  simp only [laws_FnShifts.j2] at H
                  by_cases c25 : x132_19 = true
                  · subst c25
                    have H1 : (some false) = some r := by rw [if_pos rfl] at H; exact H
                    clear H
                    have H := H1
                    clear H1
                    as_aux_lemma =>
                      obtain rfl := Option.some.inj H
                      go_wp2
                      go_ret
                      exact ⟨by first | rfl | (simp [errW_none, errW_some] <;> rfl) | (simp [*, errW_none, errW_some] <;> rfl), by repeat (first | (with_reducible first | exact HB.out | apply below_alloc | apply pw_below_drewN | apply below_drew1) | exact HB.out)⟩
                  · replace c25 := Bool.eq_false_iff.mpr c25
                    subst c25
                    have H1 : (laws_FnShifts.l1 kj19 t254 t255 t256 (wrap64 (20 + t257)) t258 t265 t265 0) = some r := by rw [if_neg (show ¬ (false = true) by decide)] at H; exact H
                    clear H
                    have H := H1
                    clear H1
                    have H' := Aside0.mk H
                    clear H
                    go_wp2
                    go_loopg [24, 25] kj19 (fun kq v24 v25 w' => ∃ (x24_4 : Int) (x25_4 : Int), v24 = .int .i64 x24_4 ∧ v25 = .int .i64 x25_4 ∧ Aside0 (laws_FnShifts.l1 kq t254 t255 t256 (wrap64 (20 + t257)) t258 t265 x24_4 x25_4 = some r) ∧ Aside0 (kq ≤ kj19) ∧ Aside0 (Below w.heap.size w w'))
                    case atStart => exact ⟨(t265), (0), (by first | rfl | (simp; done) | (simp [*]; done)), (by first | rfl | (simp; done) | (simp [*]; done)), H', ⟨Nat.le_refl _⟩, ⟨by repeat (first | (with_reducible first | exact HB.out | apply below_alloc | apply pw_below_drewN | apply below_drew1) | exact HB.out)⟩⟩
                    case round =>
                      clear H'
                      try clear c1
                      try clear c2
                      try clear p2
                      try clear c4
                      try clear c4b0
                      try clear c4b1
                      try clear c5
                      try clear p6
                      try clear c8
                      try clear c13
                      try clear c14
                      try clear c17
                      try clear c17b0
                      try clear c19
                      try clear c19b0
                      try clear c19b1
                      try clear c21
                      try clear c21b0
                      try clear c21b1
                      try clear c22
                      try clear c22b0
                      try clear c22b1
                      try clear c23
                      try clear c23b0
                      try clear c23b1
                      try clear c24
                      try clear c24b0
                      try clear c24b1
                      try clear c25
                      try clear p2
                      try clear p6
                      obtain ⟨x24_4, x25_4, rfl, rfl, HA, HK4, HB⟩ := hrel
                      cases gk with
                      | zero => exact absurd HA.out (by simp [laws_FnShifts.l1])
                      | succ k4 =>
                        have H := HA.out
                        clear HA
                        simp only [laws_FnShifts.l1] at H
                        by_cases c26 : x25_4 < (wrap64 (8 * t255))
                        · rw [if_pos c26] at H
                          have c26b0 : decide (x25_4 < (wrap64 (8 * t255))) = true := decide_eq_true c26
                          clear c26
                          replace H := Option.bind_eq_some_iff.mp H
                          obtain ⟨⟨t270, t271, t272⟩, A270, H⟩ := H
                          replace H : (if t272 = 0 then (laws_FnShifts.l1 k4 t254 t255 t256 (wrap64 (20 + t257)) t258 t265 t270 (wrap64 (x25_4 + 1))) else (some false)) = some r := H
                          have A27 := Aside0.mk A270
                          clear A270
                          by_cases c28 : t272 = 0
                          · rw [if_pos c28] at H
                            have c28b0 : (t272 == 0) = true := beq_iff_eq.mpr c28
                            have c28b1 : (t272 != 0) = false := bne_eq_false_iff_eq.mpr c28
                            clear c28
                            as_aux_lemma =>
                              have H' := Aside0.mk H
                              clear H
                              go_wp2_with (first | ((with_reducible refine gate_callee (f := 14) rfl ?_); refine goesL_ (some 144) rfl rfl Try.func14 (by kernel_rfl) rfl #[.int .i64 20, .int .i64 t255, .int .i64 x24_4, .int .i64 1, .int .i64 t256] rfl (by (try simp only [List.map_toArray, List.map_cons, List.map_nil]); first | done | rfl | (simp only [List.length_drop, List.length_take]; rfl)) ?_; (with_reducible refine (impl_Shift.calls k4 20 t255 x24_4 1 t256 t270 t271 t272 _ A27.out).mono ?_); rintro e w' ⟨rfl, ⟨nd, rfl⟩⟩; refine ⟨_, rfl, ?_⟩))
                              go_roundg k4
                              case measure => have := HJ2.out; have := HK2.out; have := HJ19.out; have := HK4.out; omega
                              case rel => (try rw [c19b0]); (try rw [c19b1]); (try rw [c21b0]); (try rw [c21b1]); (try rw [c22b0]); (try rw [c22b1]); (try rw [c23b0]); (try rw [c23b1]); (try rw [c24b0]); (try rw [c24b1]); (try rw [c28b0]); (try rw [c28b1]); exact ⟨(t270), (wrap64 (x25_4 + 1)), (by first | rfl | (simp; done) | (simp [*]; done)), (by first | rfl | (simp; done) | (simp [*]; done)), H', ⟨by have := HJ2.out; have := HK2.out; have := HJ19.out; have := HK4.out; omega⟩, ⟨by repeat (first | (with_reducible first | exact HB.out | apply below_alloc | apply pw_below_drewN | apply below_drew1) | exact HB.out)⟩⟩
                          · rw [if_neg c28] at H
                            have c28b0 : (t272 == 0) = false := beq_eq_false_iff_ne.mpr c28
                            have c28b1 : (t272 != 0) = true := bne_iff_ne.mpr c28
                            as_aux_lemma =>
                              obtain rfl := Option.some.inj H
                              go_wp2_with (first | ((with_reducible refine gate_callee (f := 14) rfl ?_); refine goesL_ (some 144) rfl rfl Try.func14 (by kernel_rfl) rfl #[.int .i64 20, .int .i64 t255, .int .i64 x24_4, .int .i64 1, .int .i64 t256] rfl (by (try simp only [List.map_toArray, List.map_cons, List.map_nil]); first | done | rfl | (simp only [List.length_drop, List.length_take]; rfl)) ?_; (with_reducible refine (impl_Shift.calls k4 20 t255 x24_4 1 t256 t270 t271 t272 _ A27.out).mono ?_); rintro e w' ⟨rfl, ⟨nd, rfl⟩⟩; refine ⟨_, rfl, ?_⟩))
                              go_ret
                              exact ⟨by first | rfl | (simp [errW_none, errW_some] <;> rfl) | (simp [*, errW_none, errW_some] <;> rfl), by repeat (first | (with_reducible first | exact HB.out | apply below_alloc | apply pw_below_drewN | apply below_drew1) | exact HB.out)⟩
                        · rw [if_neg c26] at H
                          have c26b0 : decide (x25_4 < (wrap64 (8 * t255))) = false := decide_eq_false c26
                          clear c26
                          replace H := Option.bind_eq_some_iff.mp H
                          obtain ⟨⟨t273, t274, t275⟩, A290, H⟩ := H
                          replace H : ((impl_Shift.f k4 20 t255 t273 3 t274).bind fun bt276 => ((spec_ZeroOf.f k4 t254 1).bind fun bt279 => ((impl_Shift.f k4 22 8 bt279.1 t258 t256).bind fun bt281 => ((impl_Shift.f k4 23 8 bt281.1 t258 t256).bind fun bt284 => ((impl_Shift.f k4 (wrap64 (20 + t257)) t255 t254 64 t256).bind fun bt287 => (if x24_4 = t265 then (if t275 = 0 then (if bt276.2.2 = 0 then (if bt276.1 = t265 then (if bt281.2.2 = 0 then (if bt284.2.2 = 0 then (if bt284.1 = bt279.1 then (if bt287.2.2 = 0 then (some (bt287.2.1 == t256)) else (some false)) else (some false)) else (some false)) else (some false)) else (some false)) else (some false)) else (some false)) else (some false))))))) = some r := H
                          have A29 := Aside0.mk A290
                          clear A290
                          replace H := Option.bind_eq_some_iff.mp H
                          obtain ⟨⟨t276, t277, t278⟩, A300, H⟩ := H
                          replace H : ((spec_ZeroOf.f k4 t254 1).bind fun bt279 => ((impl_Shift.f k4 22 8 bt279.1 t258 t256).bind fun bt281 => ((impl_Shift.f k4 23 8 bt281.1 t258 t256).bind fun bt284 => ((impl_Shift.f k4 (wrap64 (20 + t257)) t255 t254 64 t256).bind fun bt287 => (if x24_4 = t265 then (if t275 = 0 then (if t278 = 0 then (if t276 = t265 then (if bt281.2.2 = 0 then (if bt284.2.2 = 0 then (if bt284.1 = bt279.1 then (if bt287.2.2 = 0 then (some (bt287.2.1 == t256)) else (some false)) else (some false)) else (some false)) else (some false)) else (some false)) else (some false)) else (some false)) else (some false)))))) = some r := H
                          have A30 := Aside0.mk A300
                          clear A300
                          replace H := Option.bind_eq_some_iff.mp H
                          obtain ⟨⟨t279, t280⟩, A310, H⟩ := H
                          replace H : ((impl_Shift.f k4 22 8 t279 t258 t256).bind fun bt281 => ((impl_Shift.f k4 23 8 bt281.1 t258 t256).bind fun bt284 => ((impl_Shift.f k4 (wrap64 (20 + t257)) t255 t254 64 t256).bind fun bt287 => (if x24_4 = t265 then (if t275 = 0 then (if t278 = 0 then (if t276 = t265 then (if bt281.2.2 = 0 then (if bt284.2.2 = 0 then (if bt284.1 = t279 then (if bt287.2.2 = 0 then (some (bt287.2.1 == t256)) else (some false)) else (some false)) else (some false)) else (some false)) else (some false)) else (some false)) else (some false)) else (some false))))) = some r := H
                          have A31 := Aside0.mk A310
                          clear A310
                          replace H := Option.bind_eq_some_iff.mp H
                          obtain ⟨⟨t281, t282, t283⟩, A320, H⟩ := H
                          replace H : ((impl_Shift.f k4 23 8 t281 t258 t256).bind fun bt284 => ((impl_Shift.f k4 (wrap64 (20 + t257)) t255 t254 64 t256).bind fun bt287 => (if x24_4 = t265 then (if t275 = 0 then (if t278 = 0 then (if t276 = t265 then (if t283 = 0 then (if bt284.2.2 = 0 then (if bt284.1 = t279 then (if bt287.2.2 = 0 then (some (bt287.2.1 == t256)) else (some false)) else (some false)) else (some false)) else (some false)) else (some false)) else (some false)) else (some false)) else (some false)))) = some r := H
                          have A32 := Aside0.mk A320
                          clear A320
                          replace H := Option.bind_eq_some_iff.mp H
                          obtain ⟨⟨t284, t285, t286⟩, A330, H⟩ := H
                          replace H : ((impl_Shift.f k4 (wrap64 (20 + t257)) t255 t254 64 t256).bind fun bt287 => (if x24_4 = t265 then (if t275 = 0 then (if t278 = 0 then (if t276 = t265 then (if t283 = 0 then (if t286 = 0 then (if t284 = t279 then (if bt287.2.2 = 0 then (some (bt287.2.1 == t256)) else (some false)) else (some false)) else (some false)) else (some false)) else (some false)) else (some false)) else (some false)) else (some false))) = some r := H
                          have A33 := Aside0.mk A330
                          clear A330
                          replace H := Option.bind_eq_some_iff.mp H
                          obtain ⟨⟨t287, t288, t289⟩, A340, H⟩ := H
                          replace H : (if x24_4 = t265 then (if t275 = 0 then (if t278 = 0 then (if t276 = t265 then (if t283 = 0 then (if t286 = 0 then (if t284 = t279 then (if t289 = 0 then (some (t288 == t256)) else (some false)) else (some false)) else (some false)) else (some false)) else (some false)) else (some false)) else (some false)) else (some false)) = some r := H
                          have A34 := Aside0.mk A340
                          clear A340
                          by_cases c35 : x24_4 = t265
                          · rw [if_pos c35] at H
                            have c35b0 : (x24_4 == t265) = true := beq_iff_eq.mpr c35
                            have c35b1 : (x24_4 != t265) = false := bne_eq_false_iff_eq.mpr c35
                            clear c35
                            by_cases c36 : t275 = 0
                            · rw [if_pos c36] at H
                              have c36b0 : (t275 == 0) = true := beq_iff_eq.mpr c36
                              have c36b1 : (t275 != 0) = false := bne_eq_false_iff_eq.mpr c36
                              clear c36
                              by_cases c37 : t278 = 0
                              · rw [if_pos c37] at H
                                have c37b0 : (t278 == 0) = true := beq_iff_eq.mpr c37
                                have c37b1 : (t278 != 0) = false := bne_eq_false_iff_eq.mpr c37
                                clear c37
                                by_cases c38 : t276 = t265
                                · rw [if_pos c38] at H
                                  have c38b0 : (t276 == t265) = true := beq_iff_eq.mpr c38
                                  have c38b1 : (t276 != t265) = false := bne_eq_false_iff_eq.mpr c38
                                  clear c38
                                  by_cases c39 : t283 = 0
                                  · rw [if_pos c39] at H
                                    have c39b0 : (t283 == 0) = true := beq_iff_eq.mpr c39
                                    have c39b1 : (t283 != 0) = false := bne_eq_false_iff_eq.mpr c39
                                    clear c39
                                    by_cases c40 : t286 = 0
                                    · rw [if_pos c40] at H
                                      have c40b0 : (t286 == 0) = true := beq_iff_eq.mpr c40
                                      have c40b1 : (t286 != 0) = false := bne_eq_false_iff_eq.mpr c40
                                      clear c40
                                      by_cases c41 : t284 = t279
                                      · rw [if_pos c41] at H
                                        have c41b0 : (t284 == t279) = true := beq_iff_eq.mpr c41
                                        have c41b1 : (t284 != t279) = false := bne_eq_false_iff_eq.mpr c41
                                        clear c41
                                        by_cases c42 : t289 = 0
                                        · rw [if_pos c42] at H
                                          have c42b0 : (t289 == 0) = true := beq_iff_eq.mpr c42
                                          have c42b1 : (t289 != 0) = false := bne_eq_false_iff_eq.mpr c42
                                          clear c42
                                          as_aux_lemma =>
                                            obtain rfl := Option.some.inj H
                                            go_wp2_with (first | ((with_reducible refine gate_callee (f := 14) rfl ?_); refine goesL_ (some 155) rfl rfl Try.func14 (by kernel_rfl) rfl #[.int .i64 21, .int .i64 t255, .int .i64 t265, .int .i64 3, .int .i64 t256] rfl (by (try simp only [List.map_toArray, List.map_cons, List.map_nil]); first | done | rfl | (simp only [List.length_drop, List.length_take]; rfl)) ?_; (with_reducible refine (impl_Shift.calls k4 21 t255 t265 3 t256 t273 t274 t275 _ A29.out).mono ?_); rintro e w' ⟨rfl, ⟨nd, rfl⟩⟩; refine ⟨_, rfl, ?_⟩) | ((with_reducible refine gate_callee (f := 14) rfl ?_); refine goesL_ (some 163) rfl rfl Try.func14 (by kernel_rfl) rfl #[.int .i64 20, .int .i64 t255, .int .i64 t273, .int .i64 3, .int .i64 t274] rfl (by (try simp only [List.map_toArray, List.map_cons, List.map_nil]); first | done | rfl | (simp only [List.length_drop, List.length_take]; rfl)) ?_; (with_reducible refine (impl_Shift.calls k4 20 t255 t273 3 t274 t276 t277 t278 _ A30.out).mono ?_); rintro e w' ⟨rfl, ⟨nd, rfl⟩⟩; refine ⟨_, rfl, ?_⟩) | ((with_reducible refine gate_callee (f := 25) rfl ?_); refine goesL_ (some 169) rfl rfl Try.func25 (by kernel_rfl) rfl #[.int .i64 t254, .int .i64 1] rfl (by (try simp only [List.map_toArray, List.map_cons, List.map_nil]); first | done | rfl | (simp only [List.length_drop, List.length_take]; rfl)) ?_; (with_reducible refine (spec_ZeroOf.calls k4 t254 1 t279 t280 _ A31.out).mono ?_); rintro e w' ⟨rfl, ⟨nd, rfl⟩⟩; refine ⟨_, rfl, ?_⟩) | ((with_reducible refine gate_callee (f := 14) rfl ?_); refine goesL_ (some 176) rfl rfl Try.func14 (by kernel_rfl) rfl #[.int .i64 22, .int .i64 8, .int .i64 t279, .int .i64 t258, .int .i64 t256] rfl (by (try simp only [List.map_toArray, List.map_cons, List.map_nil]); first | done | rfl | (simp only [List.length_drop, List.length_take]; rfl)) ?_; (with_reducible refine (impl_Shift.calls k4 22 8 t279 t258 t256 t281 t282 t283 _ A32.out).mono ?_); rintro e w' ⟨rfl, ⟨nd, rfl⟩⟩; refine ⟨_, rfl, ?_⟩) | ((with_reducible refine gate_callee (f := 14) rfl ?_); refine goesL_ (some 184) rfl rfl Try.func14 (by kernel_rfl) rfl #[.int .i64 23, .int .i64 8, .int .i64 t281, .int .i64 t258, .int .i64 t256] rfl (by (try simp only [List.map_toArray, List.map_cons, List.map_nil]); first | done | rfl | (simp only [List.length_drop, List.length_take]; rfl)) ?_; (with_reducible refine (impl_Shift.calls k4 23 8 t281 t258 t256 t284 t285 t286 _ A33.out).mono ?_); rintro e w' ⟨rfl, ⟨nd, rfl⟩⟩; refine ⟨_, rfl, ?_⟩) | ((with_reducible refine gate_callee (f := 14) rfl ?_); refine goesL_ (some 193) rfl rfl Try.func14 (by kernel_rfl) rfl #[.int .i64 (wrap64 (20 + t257)), .int .i64 t255, .int .i64 t254, .int .i64 64, .int .i64 t256] rfl (by (try simp only [List.map_toArray, List.map_cons, List.map_nil]); first | done | rfl | (simp only [List.length_drop, List.length_take]; rfl)) ?_; (with_reducible refine (impl_Shift.calls k4 (wrap64 (20 + t257)) t255 t254 64 t256 t287 t288 t289 _ A34.out).mono ?_); rintro e w' ⟨rfl, ⟨nd, rfl⟩⟩; refine ⟨_, rfl, ?_⟩))
                                            go_ret
                                            exact ⟨by first | rfl | (simp [errW_none, errW_some] <;> rfl) | (simp [*, errW_none, errW_some] <;> rfl), by repeat (first | (with_reducible first | exact HB.out | apply below_alloc | apply pw_below_drewN | apply below_drew1) | exact HB.out)⟩
                                        · rw [if_neg c42] at H
                                          have c42b0 : (t289 == 0) = false := beq_eq_false_iff_ne.mpr c42
                                          have c42b1 : (t289 != 0) = true := bne_iff_ne.mpr c42
                                          as_aux_lemma =>
                                            obtain rfl := Option.some.inj H
                                            go_wp2_with (first | ((with_reducible refine gate_callee (f := 14) rfl ?_); refine goesL_ (some 155) rfl rfl Try.func14 (by kernel_rfl) rfl #[.int .i64 21, .int .i64 t255, .int .i64 t265, .int .i64 3, .int .i64 t256] rfl (by (try simp only [List.map_toArray, List.map_cons, List.map_nil]); first | done | rfl | (simp only [List.length_drop, List.length_take]; rfl)) ?_; (with_reducible refine (impl_Shift.calls k4 21 t255 t265 3 t256 t273 t274 t275 _ A29.out).mono ?_); rintro e w' ⟨rfl, ⟨nd, rfl⟩⟩; refine ⟨_, rfl, ?_⟩) | ((with_reducible refine gate_callee (f := 14) rfl ?_); refine goesL_ (some 163) rfl rfl Try.func14 (by kernel_rfl) rfl #[.int .i64 20, .int .i64 t255, .int .i64 t273, .int .i64 3, .int .i64 t274] rfl (by (try simp only [List.map_toArray, List.map_cons, List.map_nil]); first | done | rfl | (simp only [List.length_drop, List.length_take]; rfl)) ?_; (with_reducible refine (impl_Shift.calls k4 20 t255 t273 3 t274 t276 t277 t278 _ A30.out).mono ?_); rintro e w' ⟨rfl, ⟨nd, rfl⟩⟩; refine ⟨_, rfl, ?_⟩) | ((with_reducible refine gate_callee (f := 25) rfl ?_); refine goesL_ (some 169) rfl rfl Try.func25 (by kernel_rfl) rfl #[.int .i64 t254, .int .i64 1] rfl (by (try simp only [List.map_toArray, List.map_cons, List.map_nil]); first | done | rfl | (simp only [List.length_drop, List.length_take]; rfl)) ?_; (with_reducible refine (spec_ZeroOf.calls k4 t254 1 t279 t280 _ A31.out).mono ?_); rintro e w' ⟨rfl, ⟨nd, rfl⟩⟩; refine ⟨_, rfl, ?_⟩) | ((with_reducible refine gate_callee (f := 14) rfl ?_); refine goesL_ (some 176) rfl rfl Try.func14 (by kernel_rfl) rfl #[.int .i64 22, .int .i64 8, .int .i64 t279, .int .i64 t258, .int .i64 t256] rfl (by (try simp only [List.map_toArray, List.map_cons, List.map_nil]); first | done | rfl | (simp only [List.length_drop, List.length_take]; rfl)) ?_; (with_reducible refine (impl_Shift.calls k4 22 8 t279 t258 t256 t281 t282 t283 _ A32.out).mono ?_); rintro e w' ⟨rfl, ⟨nd, rfl⟩⟩; refine ⟨_, rfl, ?_⟩) | ((with_reducible refine gate_callee (f := 14) rfl ?_); refine goesL_ (some 184) rfl rfl Try.func14 (by kernel_rfl) rfl #[.int .i64 23, .int .i64 8, .int .i64 t281, .int .i64 t258, .int .i64 t256] rfl (by (try simp only [List.map_toArray, List.map_cons, List.map_nil]); first | done | rfl | (simp only [List.length_drop, List.length_take]; rfl)) ?_; (with_reducible refine (impl_Shift.calls k4 23 8 t281 t258 t256 t284 t285 t286 _ A33.out).mono ?_); rintro e w' ⟨rfl, ⟨nd, rfl⟩⟩; refine ⟨_, rfl, ?_⟩) | ((with_reducible refine gate_callee (f := 14) rfl ?_); refine goesL_ (some 193) rfl rfl Try.func14 (by kernel_rfl) rfl #[.int .i64 (wrap64 (20 + t257)), .int .i64 t255, .int .i64 t254, .int .i64 64, .int .i64 t256] rfl (by (try simp only [List.map_toArray, List.map_cons, List.map_nil]); first | done | rfl | (simp only [List.length_drop, List.length_take]; rfl)) ?_; (with_reducible refine (impl_Shift.calls k4 (wrap64 (20 + t257)) t255 t254 64 t256 t287 t288 t289 _ A34.out).mono ?_); rintro e w' ⟨rfl, ⟨nd, rfl⟩⟩; refine ⟨_, rfl, ?_⟩))
                                            go_ret
                                            exact ⟨by first | rfl | (simp [errW_none, errW_some] <;> rfl) | (simp [*, errW_none, errW_some] <;> rfl), by repeat (first | (with_reducible first | exact HB.out | apply below_alloc | apply pw_below_drewN | apply below_drew1) | exact HB.out)⟩
                                      · rw [if_neg c41] at H
                                        have c41b0 : (t284 == t279) = false := beq_eq_false_iff_ne.mpr c41
                                        have c41b1 : (t284 != t279) = true := bne_iff_ne.mpr c41
                                        as_aux_lemma =>
                                          obtain rfl := Option.some.inj H
                                          go_wp2_with (first | ((with_reducible refine gate_callee (f := 14) rfl ?_); refine goesL_ (some 155) rfl rfl Try.func14 (by kernel_rfl) rfl #[.int .i64 21, .int .i64 t255, .int .i64 t265, .int .i64 3, .int .i64 t256] rfl (by (try simp only [List.map_toArray, List.map_cons, List.map_nil]); first | done | rfl | (simp only [List.length_drop, List.length_take]; rfl)) ?_; (with_reducible refine (impl_Shift.calls k4 21 t255 t265 3 t256 t273 t274 t275 _ A29.out).mono ?_); rintro e w' ⟨rfl, ⟨nd, rfl⟩⟩; refine ⟨_, rfl, ?_⟩) | ((with_reducible refine gate_callee (f := 14) rfl ?_); refine goesL_ (some 163) rfl rfl Try.func14 (by kernel_rfl) rfl #[.int .i64 20, .int .i64 t255, .int .i64 t273, .int .i64 3, .int .i64 t274] rfl (by (try simp only [List.map_toArray, List.map_cons, List.map_nil]); first | done | rfl | (simp only [List.length_drop, List.length_take]; rfl)) ?_; (with_reducible refine (impl_Shift.calls k4 20 t255 t273 3 t274 t276 t277 t278 _ A30.out).mono ?_); rintro e w' ⟨rfl, ⟨nd, rfl⟩⟩; refine ⟨_, rfl, ?_⟩) | ((with_reducible refine gate_callee (f := 25) rfl ?_); refine goesL_ (some 169) rfl rfl Try.func25 (by kernel_rfl) rfl #[.int .i64 t254, .int .i64 1] rfl (by (try simp only [List.map_toArray, List.map_cons, List.map_nil]); first | done | rfl | (simp only [List.length_drop, List.length_take]; rfl)) ?_; (with_reducible refine (spec_ZeroOf.calls k4 t254 1 t279 t280 _ A31.out).mono ?_); rintro e w' ⟨rfl, ⟨nd, rfl⟩⟩; refine ⟨_, rfl, ?_⟩) | ((with_reducible refine gate_callee (f := 14) rfl ?_); refine goesL_ (some 176) rfl rfl Try.func14 (by kernel_rfl) rfl #[.int .i64 22, .int .i64 8, .int .i64 t279, .int .i64 t258, .int .i64 t256] rfl (by (try simp only [List.map_toArray, List.map_cons, List.map_nil]); first | done | rfl | (simp only [List.length_drop, List.length_take]; rfl)) ?_; (with_reducible refine (impl_Shift.calls k4 22 8 t279 t258 t256 t281 t282 t283 _ A32.out).mono ?_); rintro e w' ⟨rfl, ⟨nd, rfl⟩⟩; refine ⟨_, rfl, ?_⟩) | ((with_reducible refine gate_callee (f := 14) rfl ?_); refine goesL_ (some 184) rfl rfl Try.func14 (by kernel_rfl) rfl #[.int .i64 23, .int .i64 8, .int .i64 t281, .int .i64 t258, .int .i64 t256] rfl (by (try simp only [List.map_toArray, List.map_cons, List.map_nil]); first | done | rfl | (simp only [List.length_drop, List.length_take]; rfl)) ?_; (with_reducible refine (impl_Shift.calls k4 23 8 t281 t258 t256 t284 t285 t286 _ A33.out).mono ?_); rintro e w' ⟨rfl, ⟨nd, rfl⟩⟩; refine ⟨_, rfl, ?_⟩) | ((with_reducible refine gate_callee (f := 14) rfl ?_); refine goesL_ (some 193) rfl rfl Try.func14 (by kernel_rfl) rfl #[.int .i64 (wrap64 (20 + t257)), .int .i64 t255, .int .i64 t254, .int .i64 64, .int .i64 t256] rfl (by (try simp only [List.map_toArray, List.map_cons, List.map_nil]); first | done | rfl | (simp only [List.length_drop, List.length_take]; rfl)) ?_; (with_reducible refine (impl_Shift.calls k4 (wrap64 (20 + t257)) t255 t254 64 t256 t287 t288 t289 _ A34.out).mono ?_); rintro e w' ⟨rfl, ⟨nd, rfl⟩⟩; refine ⟨_, rfl, ?_⟩))
                                          go_ret
                                          exact ⟨by first | rfl | (simp [errW_none, errW_some] <;> rfl) | (simp [*, errW_none, errW_some] <;> rfl), by repeat (first | (with_reducible first | exact HB.out | apply below_alloc | apply pw_below_drewN | apply below_drew1) | exact HB.out)⟩
                                    · rw [if_neg c40] at H
                                      have c40b0 : (t286 == 0) = false := beq_eq_false_iff_ne.mpr c40
                                      have c40b1 : (t286 != 0) = true := bne_iff_ne.mpr c40
                                      as_aux_lemma =>
                                        obtain rfl := Option.some.inj H
                                        go_wp2_with (first | ((with_reducible refine gate_callee (f := 14) rfl ?_); refine goesL_ (some 155) rfl rfl Try.func14 (by kernel_rfl) rfl #[.int .i64 21, .int .i64 t255, .int .i64 t265, .int .i64 3, .int .i64 t256] rfl (by (try simp only [List.map_toArray, List.map_cons, List.map_nil]); first | done | rfl | (simp only [List.length_drop, List.length_take]; rfl)) ?_; (with_reducible refine (impl_Shift.calls k4 21 t255 t265 3 t256 t273 t274 t275 _ A29.out).mono ?_); rintro e w' ⟨rfl, ⟨nd, rfl⟩⟩; refine ⟨_, rfl, ?_⟩) | ((with_reducible refine gate_callee (f := 14) rfl ?_); refine goesL_ (some 163) rfl rfl Try.func14 (by kernel_rfl) rfl #[.int .i64 20, .int .i64 t255, .int .i64 t273, .int .i64 3, .int .i64 t274] rfl (by (try simp only [List.map_toArray, List.map_cons, List.map_nil]); first | done | rfl | (simp only [List.length_drop, List.length_take]; rfl)) ?_; (with_reducible refine (impl_Shift.calls k4 20 t255 t273 3 t274 t276 t277 t278 _ A30.out).mono ?_); rintro e w' ⟨rfl, ⟨nd, rfl⟩⟩; refine ⟨_, rfl, ?_⟩) | ((with_reducible refine gate_callee (f := 25) rfl ?_); refine goesL_ (some 169) rfl rfl Try.func25 (by kernel_rfl) rfl #[.int .i64 t254, .int .i64 1] rfl (by (try simp only [List.map_toArray, List.map_cons, List.map_nil]); first | done | rfl | (simp only [List.length_drop, List.length_take]; rfl)) ?_; (with_reducible refine (spec_ZeroOf.calls k4 t254 1 t279 t280 _ A31.out).mono ?_); rintro e w' ⟨rfl, ⟨nd, rfl⟩⟩; refine ⟨_, rfl, ?_⟩) | ((with_reducible refine gate_callee (f := 14) rfl ?_); refine goesL_ (some 176) rfl rfl Try.func14 (by kernel_rfl) rfl #[.int .i64 22, .int .i64 8, .int .i64 t279, .int .i64 t258, .int .i64 t256] rfl (by (try simp only [List.map_toArray, List.map_cons, List.map_nil]); first | done | rfl | (simp only [List.length_drop, List.length_take]; rfl)) ?_; (with_reducible refine (impl_Shift.calls k4 22 8 t279 t258 t256 t281 t282 t283 _ A32.out).mono ?_); rintro e w' ⟨rfl, ⟨nd, rfl⟩⟩; refine ⟨_, rfl, ?_⟩) | ((with_reducible refine gate_callee (f := 14) rfl ?_); refine goesL_ (some 184) rfl rfl Try.func14 (by kernel_rfl) rfl #[.int .i64 23, .int .i64 8, .int .i64 t281, .int .i64 t258, .int .i64 t256] rfl (by (try simp only [List.map_toArray, List.map_cons, List.map_nil]); first | done | rfl | (simp only [List.length_drop, List.length_take]; rfl)) ?_; (with_reducible refine (impl_Shift.calls k4 23 8 t281 t258 t256 t284 t285 t286 _ A33.out).mono ?_); rintro e w' ⟨rfl, ⟨nd, rfl⟩⟩; refine ⟨_, rfl, ?_⟩) | ((with_reducible refine gate_callee (f := 14) rfl ?_); refine goesL_ (some 193) rfl rfl Try.func14 (by kernel_rfl) rfl #[.int .i64 (wrap64 (20 + t257)), .int .i64 t255, .int .i64 t254, .int .i64 64, .int .i64 t256] rfl (by (try simp only [List.map_toArray, List.map_cons, List.map_nil]); first | done | rfl | (simp only [List.length_drop, List.length_take]; rfl)) ?_; (with_reducible refine (impl_Shift.calls k4 (wrap64 (20 + t257)) t255 t254 64 t256 t287 t288 t289 _ A34.out).mono ?_); rintro e w' ⟨rfl, ⟨nd, rfl⟩⟩; refine ⟨_, rfl, ?_⟩))
                                        go_ret
                                        exact ⟨by first | rfl | (simp [errW_none, errW_some] <;> rfl) | (simp [*, errW_none, errW_some] <;> rfl), by repeat (first | (with_reducible first | exact HB.out | apply below_alloc | apply pw_below_drewN | apply below_drew1) | exact HB.out)⟩
                                  · rw [if_neg c39] at H
                                    have c39b0 : (t283 == 0) = false := beq_eq_false_iff_ne.mpr c39
                                    have c39b1 : (t283 != 0) = true := bne_iff_ne.mpr c39
                                    as_aux_lemma =>
                                      obtain rfl := Option.some.inj H
                                      go_wp2_with (first | ((with_reducible refine gate_callee (f := 14) rfl ?_); refine goesL_ (some 155) rfl rfl Try.func14 (by kernel_rfl) rfl #[.int .i64 21, .int .i64 t255, .int .i64 t265, .int .i64 3, .int .i64 t256] rfl (by (try simp only [List.map_toArray, List.map_cons, List.map_nil]); first | done | rfl | (simp only [List.length_drop, List.length_take]; rfl)) ?_; (with_reducible refine (impl_Shift.calls k4 21 t255 t265 3 t256 t273 t274 t275 _ A29.out).mono ?_); rintro e w' ⟨rfl, ⟨nd, rfl⟩⟩; refine ⟨_, rfl, ?_⟩) | ((with_reducible refine gate_callee (f := 14) rfl ?_); refine goesL_ (some 163) rfl rfl Try.func14 (by kernel_rfl) rfl #[.int .i64 20, .int .i64 t255, .int .i64 t273, .int .i64 3, .int .i64 t274] rfl (by (try simp only [List.map_toArray, List.map_cons, List.map_nil]); first | done | rfl | (simp only [List.length_drop, List.length_take]; rfl)) ?_; (with_reducible refine (impl_Shift.calls k4 20 t255 t273 3 t274 t276 t277 t278 _ A30.out).mono ?_); rintro e w' ⟨rfl, ⟨nd, rfl⟩⟩; refine ⟨_, rfl, ?_⟩) | ((with_reducible refine gate_callee (f := 25) rfl ?_); refine goesL_ (some 169) rfl rfl Try.func25 (by kernel_rfl) rfl #[.int .i64 t254, .int .i64 1] rfl (by (try simp only [List.map_toArray, List.map_cons, List.map_nil]); first | done | rfl | (simp only [List.length_drop, List.length_take]; rfl)) ?_; (with_reducible refine (spec_ZeroOf.calls k4 t254 1 t279 t280 _ A31.out).mono ?_); rintro e w' ⟨rfl, ⟨nd, rfl⟩⟩; refine ⟨_, rfl, ?_⟩) | ((with_reducible refine gate_callee (f := 14) rfl ?_); refine goesL_ (some 176) rfl rfl Try.func14 (by kernel_rfl) rfl #[.int .i64 22, .int .i64 8, .int .i64 t279, .int .i64 t258, .int .i64 t256] rfl (by (try simp only [List.map_toArray, List.map_cons, List.map_nil]); first | done | rfl | (simp only [List.length_drop, List.length_take]; rfl)) ?_; (with_reducible refine (impl_Shift.calls k4 22 8 t279 t258 t256 t281 t282 t283 _ A32.out).mono ?_); rintro e w' ⟨rfl, ⟨nd, rfl⟩⟩; refine ⟨_, rfl, ?_⟩) | ((with_reducible refine gate_callee (f := 14) rfl ?_); refine goesL_ (some 184) rfl rfl Try.func14 (by kernel_rfl) rfl #[.int .i64 23, .int .i64 8, .int .i64 t281, .int .i64 t258, .int .i64 t256] rfl (by (try simp only [List.map_toArray, List.map_cons, List.map_nil]); first | done | rfl | (simp only [List.length_drop, List.length_take]; rfl)) ?_; (with_reducible refine (impl_Shift.calls k4 23 8 t281 t258 t256 t284 t285 t286 _ A33.out).mono ?_); rintro e w' ⟨rfl, ⟨nd, rfl⟩⟩; refine ⟨_, rfl, ?_⟩) | ((with_reducible refine gate_callee (f := 14) rfl ?_); refine goesL_ (some 193) rfl rfl Try.func14 (by kernel_rfl) rfl #[.int .i64 (wrap64 (20 + t257)), .int .i64 t255, .int .i64 t254, .int .i64 64, .int .i64 t256] rfl (by (try simp only [List.map_toArray, List.map_cons, List.map_nil]); first | done | rfl | (simp only [List.length_drop, List.length_take]; rfl)) ?_; (with_reducible refine (impl_Shift.calls k4 (wrap64 (20 + t257)) t255 t254 64 t256 t287 t288 t289 _ A34.out).mono ?_); rintro e w' ⟨rfl, ⟨nd, rfl⟩⟩; refine ⟨_, rfl, ?_⟩))
                                      go_ret
                                      exact ⟨by first | rfl | (simp [errW_none, errW_some] <;> rfl) | (simp [*, errW_none, errW_some] <;> rfl), by repeat (first | (with_reducible first | exact HB.out | apply below_alloc | apply pw_below_drewN | apply below_drew1) | exact HB.out)⟩
                                · rw [if_neg c38] at H
                                  have c38b0 : (t276 == t265) = false := beq_eq_false_iff_ne.mpr c38
                                  have c38b1 : (t276 != t265) = true := bne_iff_ne.mpr c38
                                  as_aux_lemma =>
                                    obtain rfl := Option.some.inj H
                                    go_wp2_with (first | ((with_reducible refine gate_callee (f := 14) rfl ?_); refine goesL_ (some 155) rfl rfl Try.func14 (by kernel_rfl) rfl #[.int .i64 21, .int .i64 t255, .int .i64 t265, .int .i64 3, .int .i64 t256] rfl (by (try simp only [List.map_toArray, List.map_cons, List.map_nil]); first | done | rfl | (simp only [List.length_drop, List.length_take]; rfl)) ?_; (with_reducible refine (impl_Shift.calls k4 21 t255 t265 3 t256 t273 t274 t275 _ A29.out).mono ?_); rintro e w' ⟨rfl, ⟨nd, rfl⟩⟩; refine ⟨_, rfl, ?_⟩) | ((with_reducible refine gate_callee (f := 14) rfl ?_); refine goesL_ (some 163) rfl rfl Try.func14 (by kernel_rfl) rfl #[.int .i64 20, .int .i64 t255, .int .i64 t273, .int .i64 3, .int .i64 t274] rfl (by (try simp only [List.map_toArray, List.map_cons, List.map_nil]); first | done | rfl | (simp only [List.length_drop, List.length_take]; rfl)) ?_; (with_reducible refine (impl_Shift.calls k4 20 t255 t273 3 t274 t276 t277 t278 _ A30.out).mono ?_); rintro e w' ⟨rfl, ⟨nd, rfl⟩⟩; refine ⟨_, rfl, ?_⟩) | ((with_reducible refine gate_callee (f := 25) rfl ?_); refine goesL_ (some 169) rfl rfl Try.func25 (by kernel_rfl) rfl #[.int .i64 t254, .int .i64 1] rfl (by (try simp only [List.map_toArray, List.map_cons, List.map_nil]); first | done | rfl | (simp only [List.length_drop, List.length_take]; rfl)) ?_; (with_reducible refine (spec_ZeroOf.calls k4 t254 1 t279 t280 _ A31.out).mono ?_); rintro e w' ⟨rfl, ⟨nd, rfl⟩⟩; refine ⟨_, rfl, ?_⟩) | ((with_reducible refine gate_callee (f := 14) rfl ?_); refine goesL_ (some 176) rfl rfl Try.func14 (by kernel_rfl) rfl #[.int .i64 22, .int .i64 8, .int .i64 t279, .int .i64 t258, .int .i64 t256] rfl (by (try simp only [List.map_toArray, List.map_cons, List.map_nil]); first | done | rfl | (simp only [List.length_drop, List.length_take]; rfl)) ?_; (with_reducible refine (impl_Shift.calls k4 22 8 t279 t258 t256 t281 t282 t283 _ A32.out).mono ?_); rintro e w' ⟨rfl, ⟨nd, rfl⟩⟩; refine ⟨_, rfl, ?_⟩) | ((with_reducible refine gate_callee (f := 14) rfl ?_); refine goesL_ (some 184) rfl rfl Try.func14 (by kernel_rfl) rfl #[.int .i64 23, .int .i64 8, .int .i64 t281, .int .i64 t258, .int .i64 t256] rfl (by (try simp only [List.map_toArray, List.map_cons, List.map_nil]); first | done | rfl | (simp only [List.length_drop, List.length_take]; rfl)) ?_; (with_reducible refine (impl_Shift.calls k4 23 8 t281 t258 t256 t284 t285 t286 _ A33.out).mono ?_); rintro e w' ⟨rfl, ⟨nd, rfl⟩⟩; refine ⟨_, rfl, ?_⟩) | ((with_reducible refine gate_callee (f := 14) rfl ?_); refine goesL_ (some 193) rfl rfl Try.func14 (by kernel_rfl) rfl #[.int .i64 (wrap64 (20 + t257)), .int .i64 t255, .int .i64 t254, .int .i64 64, .int .i64 t256] rfl (by (try simp only [List.map_toArray, List.map_cons, List.map_nil]); first | done | rfl | (simp only [List.length_drop, List.length_take]; rfl)) ?_; (with_reducible refine (impl_Shift.calls k4 (wrap64 (20 + t257)) t255 t254 64 t256 t287 t288 t289 _ A34.out).mono ?_); rintro e w' ⟨rfl, ⟨nd, rfl⟩⟩; refine ⟨_, rfl, ?_⟩))
                                    go_ret
                                    exact ⟨by first | rfl | (simp [errW_none, errW_some] <;> rfl) | (simp [*, errW_none, errW_some] <;> rfl), by repeat (first | (with_reducible first | exact HB.out | apply below_alloc | apply pw_below_drewN | apply below_drew1) | exact HB.out)⟩
                              · rw [if_neg c37] at H
                                have c37b0 : (t278 == 0) = false := beq_eq_false_iff_ne.mpr c37
                                have c37b1 : (t278 != 0) = true := bne_iff_ne.mpr c37
                                as_aux_lemma =>
                                  obtain rfl := Option.some.inj H
                                  go_wp2_with (first | ((with_reducible refine gate_callee (f := 14) rfl ?_); refine goesL_ (some 155) rfl rfl Try.func14 (by kernel_rfl) rfl #[.int .i64 21, .int .i64 t255, .int .i64 t265, .int .i64 3, .int .i64 t256] rfl (by (try simp only [List.map_toArray, List.map_cons, List.map_nil]); first | done | rfl | (simp only [List.length_drop, List.length_take]; rfl)) ?_; (with_reducible refine (impl_Shift.calls k4 21 t255 t265 3 t256 t273 t274 t275 _ A29.out).mono ?_); rintro e w' ⟨rfl, ⟨nd, rfl⟩⟩; refine ⟨_, rfl, ?_⟩) | ((with_reducible refine gate_callee (f := 14) rfl ?_); refine goesL_ (some 163) rfl rfl Try.func14 (by kernel_rfl) rfl #[.int .i64 20, .int .i64 t255, .int .i64 t273, .int .i64 3, .int .i64 t274] rfl (by (try simp only [List.map_toArray, List.map_cons, List.map_nil]); first | done | rfl | (simp only [List.length_drop, List.length_take]; rfl)) ?_; (with_reducible refine (impl_Shift.calls k4 20 t255 t273 3 t274 t276 t277 t278 _ A30.out).mono ?_); rintro e w' ⟨rfl, ⟨nd, rfl⟩⟩; refine ⟨_, rfl, ?_⟩) | ((with_reducible refine gate_callee (f := 25) rfl ?_); refine goesL_ (some 169) rfl rfl Try.func25 (by kernel_rfl) rfl #[.int .i64 t254, .int .i64 1] rfl (by (try simp only [List.map_toArray, List.map_cons, List.map_nil]); first | done | rfl | (simp only [List.length_drop, List.length_take]; rfl)) ?_; (with_reducible refine (spec_ZeroOf.calls k4 t254 1 t279 t280 _ A31.out).mono ?_); rintro e w' ⟨rfl, ⟨nd, rfl⟩⟩; refine ⟨_, rfl, ?_⟩) | ((with_reducible refine gate_callee (f := 14) rfl ?_); refine goesL_ (some 176) rfl rfl Try.func14 (by kernel_rfl) rfl #[.int .i64 22, .int .i64 8, .int .i64 t279, .int .i64 t258, .int .i64 t256] rfl (by (try simp only [List.map_toArray, List.map_cons, List.map_nil]); first | done | rfl | (simp only [List.length_drop, List.length_take]; rfl)) ?_; (with_reducible refine (impl_Shift.calls k4 22 8 t279 t258 t256 t281 t282 t283 _ A32.out).mono ?_); rintro e w' ⟨rfl, ⟨nd, rfl⟩⟩; refine ⟨_, rfl, ?_⟩) | ((with_reducible refine gate_callee (f := 14) rfl ?_); refine goesL_ (some 184) rfl rfl Try.func14 (by kernel_rfl) rfl #[.int .i64 23, .int .i64 8, .int .i64 t281, .int .i64 t258, .int .i64 t256] rfl (by (try simp only [List.map_toArray, List.map_cons, List.map_nil]); first | done | rfl | (simp only [List.length_drop, List.length_take]; rfl)) ?_; (with_reducible refine (impl_Shift.calls k4 23 8 t281 t258 t256 t284 t285 t286 _ A33.out).mono ?_); rintro e w' ⟨rfl, ⟨nd, rfl⟩⟩; refine ⟨_, rfl, ?_⟩) | ((with_reducible refine gate_callee (f := 14) rfl ?_); refine goesL_ (some 193) rfl rfl Try.func14 (by kernel_rfl) rfl #[.int .i64 (wrap64 (20 + t257)), .int .i64 t255, .int .i64 t254, .int .i64 64, .int .i64 t256] rfl (by (try simp only [List.map_toArray, List.map_cons, List.map_nil]); first | done | rfl | (simp only [List.length_drop, List.length_take]; rfl)) ?_; (with_reducible refine (impl_Shift.calls k4 (wrap64 (20 + t257)) t255 t254 64 t256 t287 t288 t289 _ A34.out).mono ?_); rintro e w' ⟨rfl, ⟨nd, rfl⟩⟩; refine ⟨_, rfl, ?_⟩))
                                  go_ret
                                  exact ⟨by first | rfl | (simp [errW_none, errW_some] <;> rfl) | (simp [*, errW_none, errW_some] <;> rfl), by repeat (first | (with_reducible first | exact HB.out | apply below_alloc | apply pw_below_drewN | apply below_drew1) | exact HB.out)⟩
                            · rw [if_neg c36] at H
                              have c36b0 : (t275 == 0) = false := beq_eq_false_iff_ne.mpr c36
                              have c36b1 : (t275 != 0) = true := bne_iff_ne.mpr c36
                              as_aux_lemma =>
                                obtain rfl := Option.some.inj H
                                go_wp2_with (first | ((with_reducible refine gate_callee (f := 14) rfl ?_); refine goesL_ (some 155) rfl rfl Try.func14 (by kernel_rfl) rfl #[.int .i64 21, .int .i64 t255, .int .i64 t265, .int .i64 3, .int .i64 t256] rfl (by (try simp only [List.map_toArray, List.map_cons, List.map_nil]); first | done | rfl | (simp only [List.length_drop, List.length_take]; rfl)) ?_; (with_reducible refine (impl_Shift.calls k4 21 t255 t265 3 t256 t273 t274 t275 _ A29.out).mono ?_); rintro e w' ⟨rfl, ⟨nd, rfl⟩⟩; refine ⟨_, rfl, ?_⟩) | ((with_reducible refine gate_callee (f := 14) rfl ?_); refine goesL_ (some 163) rfl rfl Try.func14 (by kernel_rfl) rfl #[.int .i64 20, .int .i64 t255, .int .i64 t273, .int .i64 3, .int .i64 t274] rfl (by (try simp only [List.map_toArray, List.map_cons, List.map_nil]); first | done | rfl | (simp only [List.length_drop, List.length_take]; rfl)) ?_; (with_reducible refine (impl_Shift.calls k4 20 t255 t273 3 t274 t276 t277 t278 _ A30.out).mono ?_); rintro e w' ⟨rfl, ⟨nd, rfl⟩⟩; refine ⟨_, rfl, ?_⟩) | ((with_reducible refine gate_callee (f := 25) rfl ?_); refine goesL_ (some 169) rfl rfl Try.func25 (by kernel_rfl) rfl #[.int .i64 t254, .int .i64 1] rfl (by (try simp only [List.map_toArray, List.map_cons, List.map_nil]); first | done | rfl | (simp only [List.length_drop, List.length_take]; rfl)) ?_; (with_reducible refine (spec_ZeroOf.calls k4 t254 1 t279 t280 _ A31.out).mono ?_); rintro e w' ⟨rfl, ⟨nd, rfl⟩⟩; refine ⟨_, rfl, ?_⟩) | ((with_reducible refine gate_callee (f := 14) rfl ?_); refine goesL_ (some 176) rfl rfl Try.func14 (by kernel_rfl) rfl #[.int .i64 22, .int .i64 8, .int .i64 t279, .int .i64 t258, .int .i64 t256] rfl (by (try simp only [List.map_toArray, List.map_cons, List.map_nil]); first | done | rfl | (simp only [List.length_drop, List.length_take]; rfl)) ?_; (with_reducible refine (impl_Shift.calls k4 22 8 t279 t258 t256 t281 t282 t283 _ A32.out).mono ?_); rintro e w' ⟨rfl, ⟨nd, rfl⟩⟩; refine ⟨_, rfl, ?_⟩) | ((with_reducible refine gate_callee (f := 14) rfl ?_); refine goesL_ (some 184) rfl rfl Try.func14 (by kernel_rfl) rfl #[.int .i64 23, .int .i64 8, .int .i64 t281, .int .i64 t258, .int .i64 t256] rfl (by (try simp only [List.map_toArray, List.map_cons, List.map_nil]); first | done | rfl | (simp only [List.length_drop, List.length_take]; rfl)) ?_; (with_reducible refine (impl_Shift.calls k4 23 8 t281 t258 t256 t284 t285 t286 _ A33.out).mono ?_); rintro e w' ⟨rfl, ⟨nd, rfl⟩⟩; refine ⟨_, rfl, ?_⟩) | ((with_reducible refine gate_callee (f := 14) rfl ?_); refine goesL_ (some 193) rfl rfl Try.func14 (by kernel_rfl) rfl #[.int .i64 (wrap64 (20 + t257)), .int .i64 t255, .int .i64 t254, .int .i64 64, .int .i64 t256] rfl (by (try simp only [List.map_toArray, List.map_cons, List.map_nil]); first | done | rfl | (simp only [List.length_drop, List.length_take]; rfl)) ?_; (with_reducible refine (impl_Shift.calls k4 (wrap64 (20 + t257)) t255 t254 64 t256 t287 t288 t289 _ A34.out).mono ?_); rintro e w' ⟨rfl, ⟨nd, rfl⟩⟩; refine ⟨_, rfl, ?_⟩))
                                go_ret
                                exact ⟨by first | rfl | (simp [errW_none, errW_some] <;> rfl) | (simp [*, errW_none, errW_some] <;> rfl), by repeat (first | (with_reducible first | exact HB.out | apply below_alloc | apply pw_below_drewN | apply below_drew1) | exact HB.out)⟩
                          · rw [if_neg c35] at H
                            have c35b0 : (x24_4 == t265) = false := beq_eq_false_iff_ne.mpr c35
                            have c35b1 : (x24_4 != t265) = true := bne_iff_ne.mpr c35
                            as_aux_lemma =>
                              obtain rfl := Option.some.inj H
                              go_wp2_with (first | ((with_reducible refine gate_callee (f := 14) rfl ?_); refine goesL_ (some 155) rfl rfl Try.func14 (by kernel_rfl) rfl #[.int .i64 21, .int .i64 t255, .int .i64 t265, .int .i64 3, .int .i64 t256] rfl (by (try simp only [List.map_toArray, List.map_cons, List.map_nil]); first | done | rfl | (simp only [List.length_drop, List.length_take]; rfl)) ?_; (with_reducible refine (impl_Shift.calls k4 21 t255 t265 3 t256 t273 t274 t275 _ A29.out).mono ?_); rintro e w' ⟨rfl, ⟨nd, rfl⟩⟩; refine ⟨_, rfl, ?_⟩) | ((with_reducible refine gate_callee (f := 14) rfl ?_); refine goesL_ (some 163) rfl rfl Try.func14 (by kernel_rfl) rfl #[.int .i64 20, .int .i64 t255, .int .i64 t273, .int .i64 3, .int .i64 t274] rfl (by (try simp only [List.map_toArray, List.map_cons, List.map_nil]); first | done | rfl | (simp only [List.length_drop, List.length_take]; rfl)) ?_; (with_reducible refine (impl_Shift.calls k4 20 t255 t273 3 t274 t276 t277 t278 _ A30.out).mono ?_); rintro e w' ⟨rfl, ⟨nd, rfl⟩⟩; refine ⟨_, rfl, ?_⟩) | ((with_reducible refine gate_callee (f := 25) rfl ?_); refine goesL_ (some 169) rfl rfl Try.func25 (by kernel_rfl) rfl #[.int .i64 t254, .int .i64 1] rfl (by (try simp only [List.map_toArray, List.map_cons, List.map_nil]); first | done | rfl | (simp only [List.length_drop, List.length_take]; rfl)) ?_; (with_reducible refine (spec_ZeroOf.calls k4 t254 1 t279 t280 _ A31.out).mono ?_); rintro e w' ⟨rfl, ⟨nd, rfl⟩⟩; refine ⟨_, rfl, ?_⟩) | ((with_reducible refine gate_callee (f := 14) rfl ?_); refine goesL_ (some 176) rfl rfl Try.func14 (by kernel_rfl) rfl #[.int .i64 22, .int .i64 8, .int .i64 t279, .int .i64 t258, .int .i64 t256] rfl (by (try simp only [List.map_toArray, List.map_cons, List.map_nil]); first | done | rfl | (simp only [List.length_drop, List.length_take]; rfl)) ?_; (with_reducible refine (impl_Shift.calls k4 22 8 t279 t258 t256 t281 t282 t283 _ A32.out).mono ?_); rintro e w' ⟨rfl, ⟨nd, rfl⟩⟩; refine ⟨_, rfl, ?_⟩) | ((with_reducible refine gate_callee (f := 14) rfl ?_); refine goesL_ (some 184) rfl rfl Try.func14 (by kernel_rfl) rfl #[.int .i64 23, .int .i64 8, .int .i64 t281, .int .i64 t258, .int .i64 t256] rfl (by (try simp only [List.map_toArray, List.map_cons, List.map_nil]); first | done | rfl | (simp only [List.length_drop, List.length_take]; rfl)) ?_; (with_reducible refine (impl_Shift.calls k4 23 8 t281 t258 t256 t284 t285 t286 _ A33.out).mono ?_); rintro e w' ⟨rfl, ⟨nd, rfl⟩⟩; refine ⟨_, rfl, ?_⟩) | ((with_reducible refine gate_callee (f := 14) rfl ?_); refine goesL_ (some 193) rfl rfl Try.func14 (by kernel_rfl) rfl #[.int .i64 (wrap64 (20 + t257)), .int .i64 t255, .int .i64 t254, .int .i64 64, .int .i64 t256] rfl (by (try simp only [List.map_toArray, List.map_cons, List.map_nil]); first | done | rfl | (simp only [List.length_drop, List.length_take]; rfl)) ?_; (with_reducible refine (impl_Shift.calls k4 (wrap64 (20 + t257)) t255 t254 64 t256 t287 t288 t289 _ A34.out).mono ?_); rintro e w' ⟨rfl, ⟨nd, rfl⟩⟩; refine ⟨_, rfl, ?_⟩))
                              go_ret
                              exact ⟨by first | rfl | (simp [errW_none, errW_some] <;> rfl) | (simp [*, errW_none, errW_some] <;> rfl), by repeat (first | (with_reducible first | exact HB.out | apply below_alloc | apply pw_below_drewN | apply below_drew1) | exact HB.out)⟩

/-- THE ONE PURE STATEMENT of laws_FnShifts: yours. -/
def laws_FnShifts.Pure : Prop := ∀ (l0 : List Int) (l1 : List Int), l0.length ≤ maxLen → l0.length * 1 ≤ 140737488351232 → (∀ x ∈ l0, (Lit.int .u8 x).wf = true) → l1.length ≤ maxLen → l1.length * 1 ≤ 140737488351232 → (∀ x ∈ l1, (Lit.int .u8 x).wf = true) → ∃ k, laws_FnShifts.f k l0 l1 = some true
theorem laws_FnShifts.walk (P : laws_FnShifts.Pure) (a0 : Option Addr) (len0 cap0 : Nat) (z0 : List Int) (a1 : Option Addr) (len1 cap1 : Nat) (z1 : List Int) (w : World) (w0 : (a0 = none ∧ len0 = 0 ∧ cap0 = 0 ∧ z0 = []) ∨ ∃ x, a0 = some x ∧ len0 ≤ cap0 ∧ cap0 ≤ maxLen ∧ z0.length = cap0 ∧ (∀ i, i < z0.length → w.cell? (x.add i) = some (.int .u8 (z0.getD i 0))) ∧ ∀ n ∈ z0, (Lit.int .u8 n).wf = true) (y0 : len0 * 1 ≤ 140737488351232) (w1 : (a1 = none ∧ len1 = 0 ∧ cap1 = 0 ∧ z1 = []) ∨ ∃ x, a1 = some x ∧ len1 ≤ cap1 ∧ cap1 ≤ maxLen ∧ z1.length = cap1 ∧ (∀ i, i < z1.length → w.cell? (x.add i) = some (.int .u8 (z1.getD i 0))) ∧ ∀ n ∈ z1, (Lit.int .u8 n).wf = true) (y1 : len1 * 1 ≤ 140737488351232) :
    Calls Try.prog 8 #[.slice a0 len0 cap0, .slice a1 len1 cap1] w fun e w' => e = .returned (.bool true) ∧ Below w.heap.size w w' := by
  obtain ⟨l0, rfl, hr0, hm0, hw0, hc0⟩ := ReadsInt.ofRowC w0
  obtain ⟨l1, rfl, hr1, hm1, hw1, hc1⟩ := ReadsInt.ofRowC w1
  obtain ⟨k, h⟩ := P l0 l1 hm0 y0 hw0 hm1 y1 hw1
  refine (laws_FnShifts.calls k _ _ l0 _ _ l1 true w (Kd.C_of_reads (d := (0 : Int)) (h1 := fun _ => rfl) hr0) hc0 (Kd.C_of_reads (d := (0 : Int)) (h1 := fun _ => rfl) hr1) hc1 h).mono ?_
  rintro e w' ⟨rfl, hd⟩
  exact ⟨rfl, hd⟩

end Go.Proofs.Ytdljhgmgpnpfiaa.PFnShifts
