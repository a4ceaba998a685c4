-- Written for this claim by the session's own program, out of the translation. Not trusted: Lean checks it.
import Derived.Test.YtdljhgmgpnpfiaaPFnWidex0
import Derived.Test.YtdljhgmgpnpfiaaPFnWidex1
import Derived.Test.YtdljhgmgpnpfiaaPFnWidex2
import Derived.Test.YtdljhgmgpnpfiaaPFnWidex3
namespace Go.Proofs.Ytdljhgmgpnpfiaa.PFnWide
open Go.RowKit Go.Proofs.YtdljhgmgpnpfiaaW.PrintWords Go.Proofs.YtdljhgmgpnpfiaaW.PrintLast Go.Proofs.YtdljhgmgpnpfiaaW.PrintMore
attribute [local go_sem] max2_int min2_int max_two min_two max_three min_three max_four min_four   -- for this text's walks alone
set_option linter.unusedVariables false
set_option linter.unusedSimpArgs false

/-! ### laws_FnWide: function 9 -/
mutual
def laws_FnWide.j0 : Nat → List Int → List Int → Bool → Option (Bool)
  | 0, _, _, _ => none
  | k + 1, x0, x1, x28 => if x28 = true then (some true) else ((spec_NumberOf.f x0).bind fun t178 => ((spec_NumberOf.f x1).bind fun t179 => ((impl_MulWide.f t178 t179).bind fun bt180 => ((spec_MulWide.f k t178 t179).bind fun bt182 => (if bt180.1 = bt182.1 then (if bt180.2 = bt182.2 then ((laws_times.f t178 t179).bind fun t184 => (laws_FnWide.j1 k x1 t178 t179 bt180.1 bt180.2 (bt180.2 != t184))) else (laws_FnWide.j1 k x1 t178 t179 bt180.1 bt180.2 true)) else (laws_FnWide.j1 k x1 t178 t179 bt180.1 bt180.2 true))))))
def laws_FnWide.j1 : Nat → List Int → Int → Int → Int → Int → Bool → Option (Bool)
  | 0, _, _, _, _, _, _ => none
  | k + 1, x1, x5, x6, x7, x8, x59 => if x59 = true then (some false) else ((impl_DivideWide.f k x7 x8 x6).bind fun bt185 => ((laws_at.f x1 0 9).bind fun t188 => ((impl_DivideWide.f k t188 x5 x6).bind fun bt189 => ((impl_BelowU.f t188 x6).bind fun t192 => (if ((bt189.2.2 == 0) != t192) = true then (laws_FnWide.j2 k x5 x6 bt185.1 bt185.2.1 bt185.2.2 t188 bt189.1 bt189.2.1 bt189.2.2 true) else ((impl_BelowU.f t188 x6).bind fun t193 => ((spec_BelowU.f t188 x6).bind fun t194 => (laws_FnWide.j2 k x5 x6 bt185.1 bt185.2.1 bt185.2.2 t188 bt189.1 bt189.2.1 bt189.2.2 (t193 != t194)))))))))
def laws_FnWide.j2 : Nat → Int → Int → Int → Int → Int → Int → Int → Int → Int → Bool → Option (Bool)
  | 0, _, _, _, _, _, _, _, _, _, _ => none
  | k + 1, x5, x6, x11, x12, x13, x14, x15, x16, x17, x92 => if x92 = true then (some false) else (if x17 = 0 then ((impl_MulWide.f x15 x6).bind fun bt195 => ((laws_plus.f bt195.2 x16).bind fun t197 => ((impl_BelowU.f t197 bt195.2).bind fun t198 => (if t198 = true then ((laws_plus.f bt195.1 1).bind fun t199 => (laws_FnWide.j3 k x5 x6 x11 x12 x13 x14 x16 t199 t197)) else (laws_FnWide.j3 k x5 x6 x11 x12 x13 x14 x16 bt195.1 t197))))) else (if x6 = 0 then (some (x13 == 16)) else (if x13 = 0 then (if x11 = x5 then (some (x12 == 0)) else (some false)) else (some false))))
def laws_FnWide.j3 : Nat → Int → Int → Int → Int → Int → Int → Int → Int → Int → Option (Bool)
  | 0, _, _, _, _, _, _, _, _, _ => none
  | k + 1, x5, x6, x11, x12, x13, x14, x16, x18, x20 => if x18 = x14 then (if x20 = x5 then ((impl_BelowU.f x16 x6).bind fun t200 => (laws_FnWide.j4 k x5 x6 x11 x12 x13 (!t200))) else (laws_FnWide.j4 k x5 x6 x11 x12 x13 true)) else (laws_FnWide.j4 k x5 x6 x11 x12 x13 true)
def laws_FnWide.j4 : Nat → Int → Int → Int → Int → Int → Bool → Option (Bool)
  | 0, _, _, _, _, _, _ => none
  | k + 1, x5, x6, x11, x12, x13, x122 => if x122 = true then (some false) else (if x6 = 0 then (some (x13 == 16)) else (if x13 = 0 then (if x11 = x5 then (some (x12 == 0)) else (some false)) else (some false)))
end
def laws_FnWide.f (k : Nat) (l0 : List Int) (l1 : List Int) : Option (Bool) := if (l0.length : Int) > 1048576 then (laws_FnWide.j0 k l0 l1 true) else (laws_FnWide.j0 k l0 l1 (decide ((l1.length : Int) > 1048576)))
theorem laws_FnWide.mono_l : ∀ k, (∀ y0 y1 y2, LeO (laws_FnWide.j0 k y0 y1 y2) (laws_FnWide.j0 (k + 1) y0 y1 y2)) ∧ (∀ y0 y1 y2 y3 y4 y5, LeO (laws_FnWide.j1 k y0 y1 y2 y3 y4 y5) (laws_FnWide.j1 (k + 1) y0 y1 y2 y3 y4 y5)) ∧ (∀ y0 y1 y2 y3 y4 y5 y6 y7 y8 y9, LeO (laws_FnWide.j2 k y0 y1 y2 y3 y4 y5 y6 y7 y8 y9) (laws_FnWide.j2 (k + 1) y0 y1 y2 y3 y4 y5 y6 y7 y8 y9)) ∧ (∀ y0 y1 y2 y3 y4 y5 y6 y7 y8, LeO (laws_FnWide.j3 k y0 y1 y2 y3 y4 y5 y6 y7 y8) (laws_FnWide.j3 (k + 1) y0 y1 y2 y3 y4 y5 y6 y7 y8)) ∧ (∀ y0 y1 y2 y3 y4 y5, LeO (laws_FnWide.j4 k y0 y1 y2 y3 y4 y5) (laws_FnWide.j4 (k + 1) y0 y1 y2 y3 y4 y5))
  | 0 => ⟨fun _ _ _ r h => by simp [laws_FnWide.j0] at h, fun _ _ _ _ _ _ r h => by simp [laws_FnWide.j1] at h, fun _ _ _ _ _ _ _ _ _ _ r h => by simp [laws_FnWide.j2] at h, fun _ _ _ _ _ _ _ _ _ r h => by simp [laws_FnWide.j3] at h, fun _ _ _ _ _ _ r h => by simp [laws_FnWide.j4] at h⟩
  | k + 1 => by
    obtain ⟨ih0, ih1, ih2, ih3, ih4⟩ := laws_FnWide.mono_l k
    refine ⟨?_, ?_, ?_, ?_, ?_⟩
    · intro y0 y1 y2
      unfold laws_FnWide.j0
      repeat' first
      | (with_reducible exact ih0 _ _ _)
      | (with_reducible exact ih1 _ _ _ _ _ _)
      | (with_reducible exact ih2 _ _ _ _ _ _ _ _ _ _)
      | (with_reducible exact ih3 _ _ _ _ _ _ _ _ _)
      | (with_reducible exact ih4 _ _ _ _ _ _)
      | (with_reducible exact impl_DivideWide.mono _ _ _ _)
      | (with_reducible exact spec_MulWide.mono _ _ _)
      | (with_reducible exact LeO.refl _)
      | (with_reducible exact LeO.none _)
      | (with_reducible refine LeO.ite ?_ ?_)
      | (with_reducible refine LeO.bind ?_ (fun _ => ?_))
      | exact ih0 _ _ _
      | exact ih1 _ _ _ _ _ _
      | exact ih2 _ _ _ _ _ _ _ _ _ _
      | exact ih3 _ _ _ _ _ _ _ _ _
      | exact ih4 _ _ _ _ _ _
      | exact impl_DivideWide.mono _ _ _ _
      | exact spec_MulWide.mono _ _ _
      | exact LeO.none _
      | refine LeO.ite ?_ ?_
      | refine LeO.bind ?_ (fun _ => ?_)
    · intro y0 y1 y2 y3 y4 y5
      unfold laws_FnWide.j1
      repeat' first
      | (with_reducible exact ih0 _ _ _)
      | (with_reducible exact ih1 _ _ _ _ _ _)
      | (with_reducible exact ih2 _ _ _ _ _ _ _ _ _ _)
      | (with_reducible exact ih3 _ _ _ _ _ _ _ _ _)
      | (with_reducible exact ih4 _ _ _ _ _ _)
      | (with_reducible exact impl_DivideWide.mono _ _ _ _)
      | (with_reducible exact spec_MulWide.mono _ _ _)
      | (with_reducible exact LeO.refl _)
      | (with_reducible exact LeO.none _)
      | (with_reducible refine LeO.ite ?_ ?_)
      | (with_reducible refine LeO.bind ?_ (fun _ => ?_))
      | exact ih0 _ _ _
      | exact ih1 _ _ _ _ _ _
      | exact ih2 _ _ _ _ _ _ _ _ _ _
      | exact ih3 _ _ _ _ _ _ _ _ _
      | exact ih4 _ _ _ _ _ _
      | exact impl_DivideWide.mono _ _ _ _
      | exact spec_MulWide.mono _ _ _
      | exact LeO.none _
      | refine LeO.ite ?_ ?_
      | refine LeO.bind ?_ (fun _ => ?_)
    · intro y0 y1 y2 y3 y4 y5 y6 y7 y8 y9
      unfold laws_FnWide.j2
      repeat' first
      | (with_reducible exact ih0 _ _ _)
      | (with_reducible exact ih1 _ _ _ _ _ _)
      | (with_reducible exact ih2 _ _ _ _ _ _ _ _ _ _)
      | (with_reducible exact ih3 _ _ _ _ _ _ _ _ _)
      | (with_reducible exact ih4 _ _ _ _ _ _)
      | (with_reducible exact impl_DivideWide.mono _ _ _ _)
      | (with_reducible exact spec_MulWide.mono _ _ _)
      | (with_reducible exact LeO.refl _)
      | (with_reducible exact LeO.none _)
      | (with_reducible refine LeO.ite ?_ ?_)
      | (with_reducible refine LeO.bind ?_ (fun _ => ?_))
      | exact ih0 _ _ _
      | exact ih1 _ _ _ _ _ _
      | exact ih2 _ _ _ _ _ _ _ _ _ _
      | exact ih3 _ _ _ _ _ _ _ _ _
      | exact ih4 _ _ _ _ _ _
      | exact impl_DivideWide.mono _ _ _ _
      | exact spec_MulWide.mono _ _ _
      | exact LeO.none _
      | refine LeO.ite ?_ ?_
      | refine LeO.bind ?_ (fun _ => ?_)
    · intro y0 y1 y2 y3 y4 y5 y6 y7 y8
      unfold laws_FnWide.j3
      repeat' first
      | (with_reducible exact ih0 _ _ _)
      | (with_reducible exact ih1 _ _ _ _ _ _)
      | (with_reducible exact ih2 _ _ _ _ _ _ _ _ _ _)
      | (with_reducible exact ih3 _ _ _ _ _ _ _ _ _)
      | (with_reducible exact ih4 _ _ _ _ _ _)
      | (with_reducible exact impl_DivideWide.mono _ _ _ _)
      | (with_reducible exact spec_MulWide.mono _ _ _)
      | (with_reducible exact LeO.refl _)
      | (with_reducible exact LeO.none _)
      | (with_reducible refine LeO.ite ?_ ?_)
      | (with_reducible refine LeO.bind ?_ (fun _ => ?_))
      | exact ih0 _ _ _
      | exact ih1 _ _ _ _ _ _
      | exact ih2 _ _ _ _ _ _ _ _ _ _
      | exact ih3 _ _ _ _ _ _ _ _ _
      | exact ih4 _ _ _ _ _ _
      | exact impl_DivideWide.mono _ _ _ _
      | exact spec_MulWide.mono _ _ _
      | exact LeO.none _
      | refine LeO.ite ?_ ?_
      | refine LeO.bind ?_ (fun _ => ?_)
    · intro y0 y1 y2 y3 y4 y5
      unfold laws_FnWide.j4
      repeat' first
      | (with_reducible exact ih0 _ _ _)
      | (with_reducible exact ih1 _ _ _ _ _ _)
      | (with_reducible exact ih2 _ _ _ _ _ _ _ _ _ _)
      | (with_reducible exact ih3 _ _ _ _ _ _ _ _ _)
      | (with_reducible exact ih4 _ _ _ _ _ _)
      | (with_reducible exact impl_DivideWide.mono _ _ _ _)
      | (with_reducible exact spec_MulWide.mono _ _ _)
      | (with_reducible exact LeO.refl _)
      | (with_reducible exact LeO.none _)
      | (with_reducible refine LeO.ite ?_ ?_)
      | (with_reducible refine LeO.bind ?_ (fun _ => ?_))
      | exact ih0 _ _ _
      | exact ih1 _ _ _ _ _ _
      | exact ih2 _ _ _ _ _ _ _ _ _ _
      | exact ih3 _ _ _ _ _ _ _ _ _
      | exact ih4 _ _ _ _ _ _
      | exact impl_DivideWide.mono _ _ _ _
      | exact spec_MulWide.mono _ _ _
      | exact LeO.none _
      | refine LeO.ite ?_ ?_
      | refine LeO.bind ?_ (fun _ => ?_)
theorem laws_FnWide.mono : ∀ a0 a1 k, LeO (laws_FnWide.f k a0 a1) (laws_FnWide.f (k + 1) a0 a1) := by
  intro a0 a1 k
  obtain ⟨ih0, ih1, ih2, ih3, ih4⟩ := laws_FnWide.mono_l k
  unfold laws_FnWide.f
  repeat' first
      | (with_reducible exact ih0 _ _ _)
      | (with_reducible exact ih1 _ _ _ _ _ _)
      | (with_reducible exact ih2 _ _ _ _ _ _ _ _ _ _)
      | (with_reducible exact ih3 _ _ _ _ _ _ _ _ _)
      | (with_reducible exact ih4 _ _ _ _ _ _)
      | (with_reducible exact impl_DivideWide.mono _ _ _ _)
      | (with_reducible exact spec_MulWide.mono _ _ _)
      | (with_reducible exact LeO.refl _)
      | (with_reducible exact LeO.none _)
      | (with_reducible refine LeO.ite ?_ ?_)
      | (with_reducible refine LeO.bind ?_ (fun _ => ?_))
      | exact ih0 _ _ _
      | exact ih1 _ _ _ _ _ _
      | exact ih2 _ _ _ _ _ _ _ _ _ _
      | exact ih3 _ _ _ _ _ _ _ _ _
      | exact ih4 _ _ _ _ _ _
      | exact impl_DivideWide.mono _ _ _ _
      | exact spec_MulWide.mono _ _ _
      | exact LeO.none _
      | refine LeO.ite ?_ ?_
      | refine LeO.bind ?_ (fun _ => ?_)
set_option maxHeartbeats 8000000 in
set_option maxRecDepth 100000 in
theorem laws_FnWide.calls (k : Nat) (A0 : Option Addr) (c0 : Nat) (l0 : List Int) (A1 : Option Addr) (c1 : Nat) (l1 : List Int) (r : Bool) (w : World) (hr0 : Kd.C (Kd.int .u8) w A0 l0.length l0) (hc0 : l0.length ≤ c0) (hr1 : Kd.C (Kd.int .u8) w A1 l1.length l1) (hc1 : l1.length ≤ c1) (h : laws_FnWide.f k l0 l1 = some r) :
    Calls Try.prog 9 #[.slice A0 l0.length c0, .slice A1 l1.length c1] w fun e w' => e = .returned (.bool r) ∧ Below w.heap.size w w' := by
  have HR0 := Aside0.mk hr0
  have HC0 := Aside0.mk hc0
  clear hr0 hc0
  have HR1 := Aside0.mk hr1
  have HC1 := Aside0.mk hc1
  clear hr1 hc1
  have HB := Aside0.mk (Below.refl w.heap.size w)
  have H : (if (l0.length : Int) > 1048576 then (laws_FnWide.j0 k l0 l1 true) else (laws_FnWide.j0 k l0 l1 (decide ((l1.length : Int) > 1048576)))) = some r := h
  clear h
  have HC3 := Aside0.mk H
  clear H
  go_enter Try.func9, Try.ntmps9
  go_upto_region 1 with (fail)
  go_cut [28] (fun v28 wc => ∃ (kq : Nat) (x28_2 : Bool), v28 = .bool x28_2 ∧ Aside0 (laws_FnWide.j0 kq l0 l1 x28_2 = some r) ∧ Aside0 (kq ≤ k) ∧ Aside0 (Below w.heap.size w wc))
  case first =>
    have H := HC3.out
    clear HC3
    by_cases c4 : (l0.length : Int) > 1048576
    · rw [if_pos c4] at H
      have c4b0 : decide (1048576 < (l0.length : Int)) = true := decide_eq_true c4
      have c4b1 : decide (1048576 < l0.length) = true := decide_eq_true (by omega)
      clear c4
      (first | rw [c4b0] | (simp only [i64_w, i32_w]; rw [c4b0]) | skip)
      have H' := Aside0.mk H
      clear H
      go_wp2
      go_meet
      case rel => exact ⟨_, (true), (by first | rfl | (simp; done) | (simp [*]; done)), H', ⟨by first | omega | exact Nat.le_refl _⟩, ⟨by repeat (first | (with_reducible first | exact HB.out | apply below_alloc | apply pw_below_drewN | apply below_drew1) | exact HB.out)⟩⟩
    · rw [if_neg c4] at H
      have c4b0 : decide (1048576 < (l0.length : Int)) = false := decide_eq_false c4
      have c4b1 : decide (1048576 < l0.length) = false := decide_eq_false (by omega)
      clear c4
      (first | rw [c4b0] | (simp only [i64_w, i32_w]; rw [c4b0]) | skip)
      have H' := Aside0.mk H
      clear H
      go_wp2
      go_meet
      case rel => exact ⟨_, (decide ((l1.length : Int) > 1048576)), (by first | rfl | (simp; done) | (simp [*]; done)), H', ⟨by first | omega | exact Nat.le_refl _⟩, ⟨by repeat (first | (with_reducible first | exact HB.out | apply below_alloc | apply pw_below_drewN | apply below_drew1) | exact HB.out)⟩⟩
  case rest =>
    clear HC3
    try clear c1
    try clear p2
    try clear c4
    try clear c4b0
    try clear c4b1
    obtain ⟨kq, x28_2, rfl, HA, HJ2, HB⟩ := hcut
    cases kq with
    | zero => exact absurd HA.out (by simp [laws_FnWide.j0])
    | succ kj2 =>
      have H := HA.out
      clear HA
      simp only [laws_FnWide.j0] at H
      by_cases c5 : x28_2 = true
      · subst c5
        have H1 : (some true) = some r := by rw [if_pos rfl] at H; exact H
        clear H
        have H := H1
        clear H1
        obtain rfl := Option.some.inj H
        go_wp2
        go_ret
        exact ⟨by first | rfl | (simp [errW_none, errW_some] <;> rfl) | (simp [*, errW_none, errW_some] <;> rfl), by repeat (first | (with_reducible first | exact HB.out | apply below_alloc | apply pw_below_drewN | apply below_drew1) | exact HB.out)⟩
      · replace c5 := Bool.eq_false_iff.mpr c5
        subst c5
        have H1 : ((spec_NumberOf.f l0).bind fun t178 => ((spec_NumberOf.f l1).bind fun t179 => ((impl_MulWide.f t178 t179).bind fun bt180 => ((spec_MulWide.f kj2 t178 t179).bind fun bt182 => (if bt180.1 = bt182.1 then (if bt180.2 = bt182.2 then ((laws_times.f t178 t179).bind fun t184 => (laws_FnWide.j1 kj2 l1 t178 t179 bt180.1 bt180.2 (bt180.2 != t184))) else (laws_FnWide.j1 kj2 l1 t178 t179 bt180.1 bt180.2 true)) else (laws_FnWide.j1 kj2 l1 t178 t179 bt180.1 bt180.2 true)))))) = some r := by rw [if_neg (show ¬ (false = true) by decide)] at H; exact H
        clear H
        have H := H1
        clear H1
        replace H := Option.bind_eq_some_iff.mp H
        obtain ⟨t178, A60, H⟩ := H
        replace H : ((spec_NumberOf.f l1).bind fun t179 => ((impl_MulWide.f t178 t179).bind fun bt180 => ((spec_MulWide.f kj2 t178 t179).bind fun bt182 => (if bt180.1 = bt182.1 then (if bt180.2 = bt182.2 then ((laws_times.f t178 t179).bind fun t184 => (laws_FnWide.j1 kj2 l1 t178 t179 bt180.1 bt180.2 (bt180.2 != t184))) else (laws_FnWide.j1 kj2 l1 t178 t179 bt180.1 bt180.2 true)) else (laws_FnWide.j1 kj2 l1 t178 t179 bt180.1 bt180.2 true))))) = some r := H
        have A6 := Aside0.mk A60
        clear A60
        replace H := Option.bind_eq_some_iff.mp H
        obtain ⟨t179, A70, H⟩ := H
        replace H : ((impl_MulWide.f t178 t179).bind fun bt180 => ((spec_MulWide.f kj2 t178 t179).bind fun bt182 => (if bt180.1 = bt182.1 then (if bt180.2 = bt182.2 then ((laws_times.f t178 t179).bind fun t184 => (laws_FnWide.j1 kj2 l1 t178 t179 bt180.1 bt180.2 (bt180.2 != t184))) else (laws_FnWide.j1 kj2 l1 t178 t179 bt180.1 bt180.2 true)) else (laws_FnWide.j1 kj2 l1 t178 t179 bt180.1 bt180.2 true)))) = some r := H
        have A7 := Aside0.mk A70
        clear A70
        replace H := Option.bind_eq_some_iff.mp H
        obtain ⟨⟨t180, t181⟩, A80, H⟩ := H
        replace H : ((spec_MulWide.f kj2 t178 t179).bind fun bt182 => (if t180 = bt182.1 then (if t181 = bt182.2 then ((laws_times.f t178 t179).bind fun t184 => (laws_FnWide.j1 kj2 l1 t178 t179 t180 t181 (t181 != t184))) else (laws_FnWide.j1 kj2 l1 t178 t179 t180 t181 true)) else (laws_FnWide.j1 kj2 l1 t178 t179 t180 t181 true))) = some r := H
        have A8 := Aside0.mk A80
        clear A80
        replace H := Option.bind_eq_some_iff.mp H
        obtain ⟨⟨t182, t183⟩, A90, H⟩ := H
        replace H : (if t180 = t182 then (if t181 = t183 then ((laws_times.f t178 t179).bind fun t184 => (laws_FnWide.j1 kj2 l1 t178 t179 t180 t181 (t181 != t184))) else (laws_FnWide.j1 kj2 l1 t178 t179 t180 t181 true)) else (laws_FnWide.j1 kj2 l1 t178 t179 t180 t181 true)) = some r := H
        have A9 := Aside0.mk A90
        clear A90
        have HC10 := Aside0.mk H
        clear H
        go_upto_region 7 with (first | ((with_reducible refine gate_callee (f := 21) rfl ?_); refine goesL_ (some 30) rfl rfl Try.func21 (by kernel_rfl) rfl #[.slice A0 l0.length c0] rfl (by (try simp only [List.map_toArray, List.map_cons, List.map_nil]); first | done | rfl | (simp only [List.length_drop, List.length_take]; rfl)) ?_; (with_reducible refine (spec_NumberOf.calls _ _ l0 t178 _ ?side1 ?side2 A6.out).mono ?_); (case side1 => repeat (first | exact (Kd.C_below HR0.out HB.out) | (with_reducible refine Kd.C_alloc ?_ _) | (with_reducible refine Kd.C_drewN ?_ _) | (with_reducible refine Kd.C_drew ?_))); (case side2 => exact HC0.out); rintro e w11 ⟨rfl, hb⟩; refine ⟨_, rfl, ?_⟩; have n0_ := Aside0.mk (below_step (by repeat (first | (with_reducible first | exact HB.out | apply below_alloc | apply pw_below_drewN | apply below_drew1) | exact HB.out)) hb); clear HB; have HB := n0_; clear n0_; (try clear hb); (try clear hb2); (try clear hk); (try clear hi)) | ((with_reducible refine gate_callee (f := 21) rfl ?_); refine goesL_ (some 32) rfl rfl Try.func21 (by kernel_rfl) rfl #[.slice A1 l1.length c1] rfl (by (try simp only [List.map_toArray, List.map_cons, List.map_nil]); first | done | rfl | (simp only [List.length_drop, List.length_take]; rfl)) ?_; (with_reducible refine (spec_NumberOf.calls _ _ l1 t179 _ ?side1 ?side2 A7.out).mono ?_); (case side1 => repeat (first | exact (Kd.C_below HR1.out HB.out) | (with_reducible refine Kd.C_alloc ?_ _) | (with_reducible refine Kd.C_drewN ?_ _) | (with_reducible refine Kd.C_drew ?_))); (case side2 => exact HC1.out); rintro e w12 ⟨rfl, hb⟩; refine ⟨_, rfl, ?_⟩; have n0_ := Aside0.mk (below_step (by repeat (first | (with_reducible first | exact HB.out | apply below_alloc | apply pw_below_drewN | apply below_drew1) | exact HB.out)) hb); clear HB; have HB := n0_; clear n0_; (try clear hb); (try clear hb2); (try clear hk); (try clear hi)) | ((with_reducible refine gate_callee (f := 26) rfl ?_); refine goesL_ (some 36) rfl rfl Try.func26 (by kernel_rfl) rfl #[.int .i64 t178, .int .i64 t179] rfl (by (try simp only [List.map_toArray, List.map_cons, List.map_nil]); first | done | rfl | (simp only [List.length_drop, List.length_take]; rfl)) ?_; (with_reducible refine (impl_MulWide.calls t178 t179 t180 t181 _ A8.out).mono ?_); rintro e w' ⟨rfl, ⟨nd, rfl⟩⟩; refine ⟨_, rfl, ?_⟩) | ((with_reducible refine gate_callee (f := 27) rfl ?_); refine goesL_ (some 42) rfl rfl Try.func27 (by kernel_rfl) rfl #[.int .i64 t178, .int .i64 t179] rfl (by (try simp only [List.map_toArray, List.map_cons, List.map_nil]); first | done | rfl | (simp only [List.length_drop, List.length_take]; rfl)) ?_; (with_reducible refine (spec_MulWide.calls kj2 t178 t179 t182 t183 _ A9.out).mono ?_); rintro e w' ⟨rfl, ⟨nd, rfl⟩⟩; refine ⟨_, rfl, ?_⟩))
        (try simp only [Act.put, List.setIfInBounds_toArray, List.set_cons_zero, List.set_cons_succ])
        go_cut [59] (fun v59 wc => ∃ (kq : Nat) (x59_9 : Bool), v59 = .bool x59_9 ∧ Aside0 (laws_FnWide.j1 kq l1 t178 t179 t180 t181 x59_9 = some r) ∧ Aside0 (kq ≤ kj2) ∧ Aside0 (Below w.heap.size w wc))
        case first =>
          have H := HC10.out
          clear HC10
          by_cases c13 : t180 = t182
          · rw [if_pos c13] at H
            have c13b0 : (t180 == t182) = true := beq_iff_eq.mpr c13
            have c13b1 : (t180 != t182) = false := bne_eq_false_iff_eq.mpr c13
            clear c13
            (first | rw [c13b0] | (simp only [i64_w, i32_w]; rw [c13b0]) | skip)
            by_cases c14 : t181 = t183
            · rw [if_pos c14] at H
              have c14b0 : (t181 == t183) = true := beq_iff_eq.mpr c14
              have c14b1 : (t181 != t183) = false := bne_eq_false_iff_eq.mpr c14
              clear c14
              replace H := Option.bind_eq_some_iff.mp H
              obtain ⟨t184, A150, H⟩ := H
              replace H : (laws_FnWide.j1 kj2 l1 t178 t179 t180 t181 (t181 != t184)) = some r := H
              have A15 := Aside0.mk A150
              clear A150
              have H' := Aside0.mk H
              clear H
              go_wp2_with (first | (go_at_call 28; (with_reducible refine (laws_times.calls t178 t179 t184 _ A15.out).mono ?_); rintro e w' ⟨rfl, ⟨nd, rfl⟩⟩))
              go_meet
              case rel => exact ⟨_, ((t181 != t184)), (by first | rfl | (simp; done) | (simp [*]; done)), H', ⟨by have := HJ2.out; first | omega | exact Nat.le_refl _⟩, ⟨by repeat (first | (with_reducible first | exact HB.out | apply below_alloc | apply pw_below_drewN | apply below_drew1) | exact HB.out)⟩⟩
            · rw [if_neg c14] at H
              have c14b0 : (t181 == t183) = false := beq_eq_false_iff_ne.mpr c14
              have c14b1 : (t181 != t183) = true := bne_iff_ne.mpr c14
              have H' := Aside0.mk H
              clear H
              go_wp2
              go_meet
              case rel => exact ⟨_, (true), (by first | rfl | (simp; done) | (simp [*]; done)), H', ⟨by have := HJ2.out; first | omega | exact Nat.le_refl _⟩, ⟨by repeat (first | (with_reducible first | exact HB.out | apply below_alloc | apply pw_below_drewN | apply below_drew1) | exact HB.out)⟩⟩
          · rw [if_neg c13] at H
            have c13b0 : (t180 == t182) = false := beq_eq_false_iff_ne.mpr c13
            have c13b1 : (t180 != t182) = true := bne_iff_ne.mpr c13
            (first | rw [c13b0] | (simp only [i64_w, i32_w]; rw [c13b0]) | skip)
            have H' := Aside0.mk H
            clear H
            go_wp2
            go_meet
            case rel => exact ⟨_, (true), (by first | rfl | (simp; done) | (simp [*]; done)), H', ⟨by have := HJ2.out; first | omega | exact Nat.le_refl _⟩, ⟨by repeat (first | (with_reducible first | exact HB.out | apply below_alloc | apply pw_below_drewN | apply below_drew1) | exact HB.out)⟩⟩
        case rest =>
          clear HC10
          try clear c1
          try clear c2
          try clear p2
          try clear c4
          try clear c4b0
          try clear c4b1
          try clear c5
          try clear c9
          try clear c13
          try clear c13b0
          try clear c13b1
          try clear c14
          try clear c14b0
          try clear c14b1
          try clear p2
          obtain ⟨kq, x59_9, rfl, HA, HJ9, HB⟩ := hcut
          cases kq with
          | zero => exact absurd HA.out (by simp [laws_FnWide.j1])
          | succ kj9 =>
            have H := HA.out
            clear HA
            simp only [laws_FnWide.j1] at H
            by_cases c16 : x59_9 = true
            · subst c16
              have H1 : (some false) = some r := by rw [if_pos rfl] at H; exact H
              clear H
              have H := H1
              clear H1
              obtain rfl := Option.some.inj H
              go_wp2
              go_ret
              exact ⟨by first | rfl | (simp [errW_none, errW_some] <;> rfl) | (simp [*, errW_none, errW_some] <;> rfl), by repeat (first | (with_reducible first | exact HB.out | apply below_alloc | apply pw_below_drewN | apply below_drew1) | exact HB.out)⟩
            · replace c16 := Bool.eq_false_iff.mpr c16
              subst c16
              have H1 : ((impl_DivideWide.f kj9 t180 t181 t179).bind fun bt185 => ((laws_at.f l1 0 9).bind fun t188 => ((impl_DivideWide.f kj9 t188 t178 t179).bind fun bt189 => ((impl_BelowU.f t188 t179).bind fun t192 => (if ((bt189.2.2 == 0) != t192) = true then (laws_FnWide.j2 kj9 t178 t179 bt185.1 bt185.2.1 bt185.2.2 t188 bt189.1 bt189.2.1 bt189.2.2 true) else ((impl_BelowU.f t188 t179).bind fun t193 => ((spec_BelowU.f t188 t179).bind fun t194 => (laws_FnWide.j2 kj9 t178 t179 bt185.1 bt185.2.1 bt185.2.2 t188 bt189.1 bt189.2.1 bt189.2.2 (t193 != t194))))))))) = some r := by rw [if_neg (show ¬ (false = true) by decide)] at H; exact H
              clear H
              have H := H1
              clear H1
              replace H := Option.bind_eq_some_iff.mp H
              obtain ⟨⟨t185, t186, t187⟩, A170, H⟩ := H
              replace H : ((laws_at.f l1 0 9).bind fun t188 => ((impl_DivideWide.f kj9 t188 t178 t179).bind fun bt189 => ((impl_BelowU.f t188 t179).bind fun t192 => (if ((bt189.2.2 == 0) != t192) = true then (laws_FnWide.j2 kj9 t178 t179 t185 t186 t187 t188 bt189.1 bt189.2.1 bt189.2.2 true) else ((impl_BelowU.f t188 t179).bind fun t193 => ((spec_BelowU.f t188 t179).bind fun t194 => (laws_FnWide.j2 kj9 t178 t179 t185 t186 t187 t188 bt189.1 bt189.2.1 bt189.2.2 (t193 != t194)))))))) = some r := H
              have A17 := Aside0.mk A170
              clear A170
              replace H := Option.bind_eq_some_iff.mp H
              obtain ⟨t188, A180, H⟩ := H
              replace H : ((impl_DivideWide.f kj9 t188 t178 t179).bind fun bt189 => ((impl_BelowU.f t188 t179).bind fun t192 => (if ((bt189.2.2 == 0) != t192) = true then (laws_FnWide.j2 kj9 t178 t179 t185 t186 t187 t188 bt189.1 bt189.2.1 bt189.2.2 true) else ((impl_BelowU.f t188 t179).bind fun t193 => ((spec_BelowU.f t188 t179).bind fun t194 => (laws_FnWide.j2 kj9 t178 t179 t185 t186 t187 t188 bt189.1 bt189.2.1 bt189.2.2 (t193 != t194))))))) = some r := H
              have A18 := Aside0.mk A180
              clear A180
              replace H := Option.bind_eq_some_iff.mp H
              obtain ⟨⟨t189, t190, t191⟩, A190, H⟩ := H
              replace H : ((impl_BelowU.f t188 t179).bind fun t192 => (if ((t191 == 0) != t192) = true then (laws_FnWide.j2 kj9 t178 t179 t185 t186 t187 t188 t189 t190 t191 true) else ((impl_BelowU.f t188 t179).bind fun t193 => ((spec_BelowU.f t188 t179).bind fun t194 => (laws_FnWide.j2 kj9 t178 t179 t185 t186 t187 t188 t189 t190 t191 (t193 != t194)))))) = some r := H
              have A19 := Aside0.mk A190
              clear A190
              have HC20 := Aside0.mk H
              clear H
              go_upto_region 12 with (first | ((with_reducible refine gate_callee (f := 29) rfl ?_); refine goesL_ (some 64) rfl rfl Try.func29 (by kernel_rfl) rfl #[.int .i64 t180, .int .i64 t181, .int .i64 t179] rfl (by (try simp only [List.map_toArray, List.map_cons, List.map_nil]); first | done | rfl | (simp only [List.length_drop, List.length_take]; rfl)) ?_; (with_reducible refine (impl_DivideWide.calls kj9 t180 t181 t179 t185 t186 t187 _ A17.out).mono ?_); rintro e w' ⟨rfl, ⟨nd, rfl⟩⟩; refine ⟨_, rfl, ?_⟩) | ((with_reducible refine gate_callee (f := 24) rfl ?_); refine goesL_ (some 69) rfl rfl Try.func24 (by kernel_rfl) rfl #[.slice A1 l1.length c1, .int .i64 0, .int .i64 9] rfl (by (try simp only [List.map_toArray, List.map_cons, List.map_nil]); first | done | rfl | (simp only [List.length_drop, List.length_take]; rfl)) ?_; (with_reducible refine (laws_at.calls _ _ l1 0 9 t188 _ ?side1 ?side2 A18.out).mono ?_); (case side1 => repeat (first | exact (Kd.C_below HR1.out (by repeat (first | (with_reducible first | exact HB.out | apply below_alloc | apply pw_below_drewN | apply below_drew1) | exact HB.out))) | (with_reducible refine Kd.C_alloc ?_ _) | (with_reducible refine Kd.C_drewN ?_ _) | (with_reducible refine Kd.C_drew ?_))); (case side2 => exact HC1.out); rintro e w' ⟨rfl, ⟨nd, rfl⟩⟩; refine ⟨_, rfl, ?_⟩) | ((with_reducible refine gate_callee (f := 29) rfl ?_); refine goesL_ (some 74) rfl rfl Try.func29 (by kernel_rfl) rfl #[.int .i64 t188, .int .i64 t178, .int .i64 t179] rfl (by (try simp only [List.map_toArray, List.map_cons, List.map_nil]); first | done | rfl | (simp only [List.length_drop, List.length_take]; rfl)) ?_; (with_reducible refine (impl_DivideWide.calls kj9 t188 t178 t179 t189 t190 t191 _ A19.out).mono ?_); rintro e w' ⟨rfl, ⟨nd, rfl⟩⟩; refine ⟨_, rfl, ?_⟩))
              (try simp only [Act.put, List.setIfInBounds_toArray, List.set_cons_zero, List.set_cons_succ])
              go_cut [92] (fun v92 wc => ∃ (kq : Nat) (x92_19 : Bool), v92 = .bool x92_19 ∧ Aside0 (laws_FnWide.j2 kq t178 t179 t185 t186 t187 t188 t189 t190 t191 x92_19 = some r) ∧ Aside0 (kq ≤ kj9) ∧ Aside0 (Below w.heap.size w wc))
              case first =>
                have H := HC20.out
                clear HC20
                replace H := Option.bind_eq_some_iff.mp H
                obtain ⟨t192, A210, H⟩ := H
                replace H : (if ((t191 == 0) != t192) = true then (laws_FnWide.j2 kj9 t178 t179 t185 t186 t187 t188 t189 t190 t191 true) else ((impl_BelowU.f t188 t179).bind fun t193 => ((spec_BelowU.f t188 t179).bind fun t194 => (laws_FnWide.j2 kj9 t178 t179 t185 t186 t187 t188 t189 t190 t191 (t193 != t194))))) = some r := H
                have A21 := Aside0.mk A210
                clear A210
                by_cases c22 : ((t191 == 0) != t192) = true
                · rw [if_pos c22] at H
                  have c22b0 : ((t191 == 0) != t192) = true := c22
                  (try (have c22b1 : decide ((t191 == 0) = t192) = false := by simpa using c22))
                  (try (have c22b2 : ((t191 == 0) == t192) = false := by simpa using c22))
                  (try (have c22b3 : ¬ ((t191 == 0) = t192) := by simpa using c22))
                  clear c22
                  (first | rw [c22b0] | (simp only [i64_w, i32_w]; rw [c22b0]) | skip)
                  have H' := Aside0.mk H
                  clear H
                  go_wp2_with (first | ((with_reducible refine gate_callee (f := 30) rfl ?_); refine goesL_ (some 82) rfl rfl Try.func30 (by kernel_rfl) rfl #[.int .i64 t188, .int .i64 t179] rfl (by (try simp only [List.map_toArray, List.map_cons, List.map_nil]); first | done | rfl | (simp only [List.length_drop, List.length_take]; rfl)) ?_; (with_reducible refine (impl_BelowU.calls t188 t179 t192 _ A21.out).mono ?_); rintro e w' ⟨rfl, ⟨nd, rfl⟩⟩; refine ⟨_, rfl, ?_⟩))
                  go_meet
                  case rel => exact ⟨_, (true), (by first | rfl | (simp; done) | (simp [*]; done)), H', ⟨by have := HJ2.out; have := HJ9.out; first | omega | exact Nat.le_refl _⟩, ⟨by repeat (first | (with_reducible first | exact HB.out | apply below_alloc | apply pw_below_drewN | apply below_drew1) | exact HB.out)⟩⟩
                · rw [if_neg c22] at H
                  have c22b0 : ((t191 == 0) != t192) = false := by simpa using c22
                  (try (have c22b1 : decide ((t191 == 0) = t192) = true := by simpa using c22))
                  (try (have c22b2 : ((t191 == 0) == t192) = true := by simpa using c22))
                  clear c22
                  (first | rw [c22b0] | (simp only [i64_w, i32_w]; rw [c22b0]) | skip)
                  replace H := Option.bind_eq_some_iff.mp H
                  obtain ⟨t193, A230, H⟩ := H
                  replace H : ((spec_BelowU.f t188 t179).bind fun t194 => (laws_FnWide.j2 kj9 t178 t179 t185 t186 t187 t188 t189 t190 t191 (t193 != t194))) = some r := H
                  have A23 := Aside0.mk A230
                  clear A230
                  replace H := Option.bind_eq_some_iff.mp H
                  obtain ⟨t194, A240, H⟩ := H
                  replace H : (laws_FnWide.j2 kj9 t178 t179 t185 t186 t187 t188 t189 t190 t191 (t193 != t194)) = some r := H
                  have A24 := Aside0.mk A240
                  clear A240
                  have H' := Aside0.mk H
                  clear H
                  go_wp2_with (first | ((with_reducible refine gate_callee (f := 30) rfl ?_); refine goesL_ (some 82) rfl rfl Try.func30 (by kernel_rfl) rfl #[.int .i64 t188, .int .i64 t179] rfl (by (try simp only [List.map_toArray, List.map_cons, List.map_nil]); first | done | rfl | (simp only [List.length_drop, List.length_take]; rfl)) ?_; (with_reducible refine (impl_BelowU.calls t188 t179 t192 _ A21.out).mono ?_); rintro e w' ⟨rfl, ⟨nd, rfl⟩⟩; refine ⟨_, rfl, ?_⟩) | (go_at_call 30; (with_reducible refine (impl_BelowU.calls t188 t179 t193 _ A23.out).mono ?_); rintro e w' ⟨rfl, ⟨nd, rfl⟩⟩) | (go_at_call 31; (with_reducible refine (spec_BelowU.calls t188 t179 t194 _ A24.out).mono ?_); rintro e w' ⟨rfl, ⟨nd, rfl⟩⟩))
                  go_meet
                  case rel => exact ⟨_, ((t193 != t194)), (by first | rfl | (simp; done) | (simp [*]; done)), H', ⟨by have := HJ2.out; have := HJ9.out; first | omega | exact Nat.le_refl _⟩, ⟨by repeat (first | (with_reducible first | exact HB.out | apply below_alloc | apply pw_below_drewN | apply below_drew1) | exact HB.out)⟩⟩
              case rest =>
                clear HC20
                try clear c1
                try clear c2
                try clear p2
                try clear c3
                try clear c4
                try clear c4b0
                try clear c4b1
                try clear c5
                try clear c9
                try clear c13
                try clear c13b0
                try clear c13b1
                try clear c14
                try clear c14b0
                try clear c14b1
                try clear c16
                try clear c21
                try clear c22
                try clear c22b0
                try clear c22b1
                try clear c22b2
                try clear c24
                try clear p2
                obtain ⟨kq, x92_19, rfl, HA, HJ19, HB⟩ := hcut
                cases kq with
                | zero => exact absurd HA.out (by simp [laws_FnWide.j2])
                | succ kj19 =>
                  have H := HA.out
                  clear HA
                  simp only [laws_FnWide.j2] at H
                  by_cases c25 : x92_19 = true
                  · subst c25
                    have H1 : (some false) = some r := by rw [if_pos rfl] at H; exact H
                    clear H
                    have H := H1
                    clear H1
                    obtain rfl := Option.some.inj H
                    go_wp2
                    go_ret
                    exact ⟨by first | rfl | (simp [errW_none, errW_some] <;> rfl) | (simp [*, errW_none, errW_some] <;> rfl), by repeat (first | (with_reducible first | exact HB.out | apply below_alloc | apply pw_below_drewN | apply below_drew1) | exact HB.out)⟩
                  · replace c25 := Bool.eq_false_iff.mpr c25
                    subst c25
                    have H1 : (if t191 = 0 then ((impl_MulWide.f t189 t179).bind fun bt195 => ((laws_plus.f bt195.2 t190).bind fun t197 => ((impl_BelowU.f t197 bt195.2).bind fun t198 => (if t198 = true then ((laws_plus.f bt195.1 1).bind fun t199 => (laws_FnWide.j3 kj19 t178 t179 t185 t186 t187 t188 t190 t199 t197)) else (laws_FnWide.j3 kj19 t178 t179 t185 t186 t187 t188 t190 bt195.1 t197))))) else (if t179 = 0 then (some (t187 == 16)) else (if t187 = 0 then (if t185 = t178 then (some (t186 == 0)) else (some false)) else (some false)))) = some r := by rw [if_neg (show ¬ (false = true) by decide)] at H; exact H
                    clear H
                    have H := H1
                    clear H1
                    by_cases c26 : t191 = 0
                    · rw [if_pos c26] at H
                      have c26b0 : (t191 == 0) = true := beq_iff_eq.mpr c26
                      have c26b1 : (t191 != 0) = false := bne_eq_false_iff_eq.mpr c26
                      clear c26
                      replace H := Option.bind_eq_some_iff.mp H
                      obtain ⟨⟨t195, t196⟩, A270, H⟩ := H
                      replace H : ((laws_plus.f t196 t190).bind fun t197 => ((impl_BelowU.f t197 t196).bind fun t198 => (if t198 = true then ((laws_plus.f t195 1).bind fun t199 => (laws_FnWide.j3 kj19 t178 t179 t185 t186 t187 t188 t190 t199 t197)) else (laws_FnWide.j3 kj19 t178 t179 t185 t186 t187 t188 t190 t195 t197)))) = some r := H
                      have A27 := Aside0.mk A270
                      clear A270
                      replace H := Option.bind_eq_some_iff.mp H
                      obtain ⟨t197, A280, H⟩ := H
                      replace H : ((impl_BelowU.f t197 t196).bind fun t198 => (if t198 = true then ((laws_plus.f t195 1).bind fun t199 => (laws_FnWide.j3 kj19 t178 t179 t185 t186 t187 t188 t190 t199 t197)) else (laws_FnWide.j3 kj19 t178 t179 t185 t186 t187 t188 t190 t195 t197))) = some r := H
                      have A28 := Aside0.mk A280
                      clear A280
                      replace H := Option.bind_eq_some_iff.mp H
                      obtain ⟨t198, A290, H⟩ := H
                      replace H : (if t198 = true then ((laws_plus.f t195 1).bind fun t199 => (laws_FnWide.j3 kj19 t178 t179 t185 t186 t187 t188 t190 t199 t197)) else (laws_FnWide.j3 kj19 t178 t179 t185 t186 t187 t188 t190 t195 t197)) = some r := H
                      have A29 := Aside0.mk A290
                      clear A290
                      have HC30 := Aside0.mk H
                      clear H
                      go_upto_if 106 with (first | ((with_reducible refine gate_callee (f := 26) rfl ?_); refine goesL_ (some 98) rfl rfl Try.func26 (by kernel_rfl) rfl #[.int .i64 t189, .int .i64 t179] rfl (by (try simp only [List.map_toArray, List.map_cons, List.map_nil]); first | done | rfl | (simp only [List.length_drop, List.length_take]; rfl)) ?_; (with_reducible refine (impl_MulWide.calls t189 t179 t195 t196 _ A27.out).mono ?_); rintro e w' ⟨rfl, ⟨nd, rfl⟩⟩; refine ⟨_, rfl, ?_⟩) | ((with_reducible refine gate_callee (f := 32) rfl ?_); refine goesL_ (some 103) rfl rfl Try.func32 (by kernel_rfl) rfl #[.int .i64 t196, .int .i64 t190] rfl (by (try simp only [List.map_toArray, List.map_cons, List.map_nil]); first | done | rfl | (simp only [List.length_drop, List.length_take]; rfl)) ?_; (with_reducible refine (laws_plus.calls t196 t190 t197 _ A28.out).mono ?_); rintro e w' ⟨rfl, ⟨nd, rfl⟩⟩; refine ⟨_, rfl, ?_⟩) | ((with_reducible refine gate_callee (f := 30) rfl ?_); refine goesL_ (some 106) rfl rfl Try.func30 (by kernel_rfl) rfl #[.int .i64 t197, .int .i64 t196] rfl (by (try simp only [List.map_toArray, List.map_cons, List.map_nil]); first | done | rfl | (simp only [List.length_drop, List.length_take]; rfl)) ?_; (with_reducible refine (impl_BelowU.calls t197 t196 t198 _ A29.out).mono ?_); rintro e w' ⟨rfl, ⟨nd, rfl⟩⟩; refine ⟨_, rfl, ?_⟩))
                      (try simp only [Act.put, List.setIfInBounds_toArray, List.set_cons_zero, List.set_cons_succ])
                      go_cut [18] (fun v18 wc => ∃ (kq : Nat) (x18_29 : Int), v18 = .int .i64 x18_29 ∧ Aside0 (laws_FnWide.j3 kq t178 t179 t185 t186 t187 t188 t190 x18_29 t197 = some r) ∧ Aside0 (kq ≤ kj19) ∧ Aside0 (Below w.heap.size w wc))
                      case first =>
                        have H := HC30.out
                        clear HC30
                        by_cases c31 : t198 = true
                        · subst c31
                          have H1 : ((laws_plus.f t195 1).bind fun t199 => (laws_FnWide.j3 kj19 t178 t179 t185 t186 t187 t188 t190 t199 t197)) = some r := by rw [if_pos rfl] at H; exact H
                          clear H
                          have H := H1
                          clear H1
                          replace H := Option.bind_eq_some_iff.mp H
                          obtain ⟨t199, A320, H⟩ := H
                          replace H : (laws_FnWide.j3 kj19 t178 t179 t185 t186 t187 t188 t190 t199 t197) = some r := H
                          have A32 := Aside0.mk A320
                          clear A320
                          have H' := Aside0.mk H
                          clear H
                          go_wp2_with (first | ((with_reducible refine gate_callee (f := 32) rfl ?_); refine goesL_ (some 108) rfl rfl Try.func32 (by kernel_rfl) rfl #[.int .i64 t195, .int .i64 1] rfl (by (try simp only [List.map_toArray, List.map_cons, List.map_nil]); first | done | rfl | (simp only [List.length_drop, List.length_take]; rfl)) ?_; (with_reducible refine (laws_plus.calls t195 1 t199 _ A32.out).mono ?_); rintro e w' ⟨rfl, ⟨nd, rfl⟩⟩; refine ⟨_, rfl, ?_⟩))
                          go_meet
                          case rel => exact ⟨_, (t199), (by first | rfl | (simp; done) | (simp [*]; done)), H', ⟨by have := HJ2.out; have := HJ9.out; have := HJ19.out; first | omega | exact Nat.le_refl _⟩, ⟨by repeat (first | (with_reducible first | exact HB.out | apply below_alloc | apply pw_below_drewN | apply below_drew1) | exact HB.out)⟩⟩
                        · replace c31 := Bool.eq_false_iff.mpr c31
                          subst c31
                          have H1 : (laws_FnWide.j3 kj19 t178 t179 t185 t186 t187 t188 t190 t195 t197) = some r := by rw [if_neg (show ¬ (false = true) by decide)] at H; exact H
                          clear H
                          have H := H1
                          clear H1
                          have H' := Aside0.mk H
                          clear H
                          go_wp2
                          go_meet
                          case rel => exact ⟨_, (t195), (by first | rfl | (simp; done) | (simp [*]; done)), H', ⟨by have := HJ2.out; have := HJ9.out; have := HJ19.out; first | omega | exact Nat.le_refl _⟩, ⟨by repeat (first | (with_reducible first | exact HB.out | apply below_alloc | apply pw_below_drewN | apply below_drew1) | exact HB.out)⟩⟩
                      case rest =>
                        clear HC30
                        try clear c1
                        try clear c2
                        try clear p2
                        try clear c3
                        try clear c4
                        try clear c4b0
                        try clear c4b1
                        try clear c5
                        try clear c9
                        try clear c13
                        try clear c13b0
                        try clear c13b1
                        try clear c14
                        try clear c14b0
                        try clear c14b1
                        try clear c16
                        try clear c21
                        try clear c22
                        try clear c22b0
                        try clear c22b1
                        try clear c22b2
                        try clear c24
                        try clear c25
                        try clear c26
                        try clear c26b0
                        try clear c26b1
                        try clear c27
                        try clear c29
                        try clear c30
                        try clear c31
                        try clear c32
                        try clear p2
                        obtain ⟨kq, x18_29, rfl, HA, HJ29, HB⟩ := hcut
                        cases kq with
                        | zero => exact absurd HA.out (by simp [laws_FnWide.j3])
                        | succ kj29 =>
                          have H := HA.out
                          clear HA
                          simp only [laws_FnWide.j3] at H
                          have HC33 := Aside0.mk H
                          clear H
                          go_upto_region 19 with (fail)
                          go_cut [122] (fun v122 wc => ∃ (kq : Nat) (x122_32 : Bool), v122 = .bool x122_32 ∧ Aside0 (laws_FnWide.j4 kq t178 t179 t185 t186 t187 x122_32 = some r) ∧ Aside0 (kq ≤ kj29) ∧ Aside0 (Below w.heap.size w wc))
                          case first =>
                            have H := HC33.out
                            clear HC33
                            by_cases c34 : x18_29 = t188
                            · rw [if_pos c34] at H
                              have c34b0 : (x18_29 == t188) = true := beq_iff_eq.mpr c34
                              have c34b1 : (x18_29 != t188) = false := bne_eq_false_iff_eq.mpr c34
                              clear c34
                              (first | rw [c34b0] | (simp only [i64_w, i32_w]; rw [c34b0]) | skip)
                              by_cases c35 : t197 = t178
                              · rw [if_pos c35] at H
                                have c35b0 : (t197 == t178) = true := beq_iff_eq.mpr c35
                                have c35b1 : (t197 != t178) = false := bne_eq_false_iff_eq.mpr c35
                                clear c35
                                replace H := Option.bind_eq_some_iff.mp H
                                obtain ⟨t200, A360, H⟩ := H
                                replace H : (laws_FnWide.j4 kj29 t178 t179 t185 t186 t187 (!t200)) = some r := H
                                have A36 := Aside0.mk A360
                                clear A360
                                have H' := Aside0.mk H
                                clear H
                                go_wp2_with (first | (go_at_call 30; (with_reducible refine (impl_BelowU.calls t190 t179 t200 _ A36.out).mono ?_); rintro e w' ⟨rfl, ⟨nd, rfl⟩⟩))
                                go_meet
                                case rel => exact ⟨_, (!t200), (by first | rfl | (simp; done) | (simp [*]; done)), H', ⟨by have := HJ2.out; have := HJ9.out; have := HJ19.out; have := HJ29.out; first | omega | exact Nat.le_refl _⟩, ⟨by repeat (first | (with_reducible first | exact HB.out | apply below_alloc | apply pw_below_drewN | apply below_drew1) | exact HB.out)⟩⟩
                              · rw [if_neg c35] at H
                                have c35b0 : (t197 == t178) = false := beq_eq_false_iff_ne.mpr c35
                                have c35b1 : (t197 != t178) = true := bne_iff_ne.mpr c35
                                have H' := Aside0.mk H
                                clear H
                                go_wp2
                                go_meet
                                case rel => exact ⟨_, (true), (by first | rfl | (simp; done) | (simp [*]; done)), H', ⟨by have := HJ2.out; have := HJ9.out; have := HJ19.out; have := HJ29.out; first | omega | exact Nat.le_refl _⟩, ⟨by repeat (first | (with_reducible first | exact HB.out | apply below_alloc | apply pw_below_drewN | apply below_drew1) | exact HB.out)⟩⟩
                            · rw [if_neg c34] at H
                              have c34b0 : (x18_29 == t188) = false := beq_eq_false_iff_ne.mpr c34
                              have c34b1 : (x18_29 != t188) = true := bne_iff_ne.mpr c34
                              (first | rw [c34b0] | (simp only [i64_w, i32_w]; rw [c34b0]) | skip)
                              have H' := Aside0.mk H
                              clear H
                              go_wp2
                              go_meet
                              case rel => exact ⟨_, (true), (by first | rfl | (simp; done) | (simp [*]; done)), H', ⟨by have := HJ2.out; have := HJ9.out; have := HJ19.out; have := HJ29.out; first | omega | exact Nat.le_refl _⟩, ⟨by repeat (first | (with_reducible first | exact HB.out | apply below_alloc | apply pw_below_drewN | apply below_drew1) | exact HB.out)⟩⟩
                          case rest =>
                            clear HC33
                            try clear c1
                            try clear c2
                            try clear p2
                            try clear c3
                            try clear c4
                            try clear c4b0
                            try clear c4b1
                            try clear c5
                            try clear c9
                            try clear c13
                            try clear c13b0
                            try clear c13b1
                            try clear c14
                            try clear c14b0
                            try clear c14b1
                            try clear c16
                            try clear c21
                            try clear c22
                            try clear c22b0
                            try clear c22b1
                            try clear c22b2
                            try clear c24
                            try clear c25
                            try clear c26
                            try clear c26b0
                            try clear c26b1
                            try clear c27
                            try clear c29
                            try clear c30
                            try clear c31
                            try clear c32
                            try clear c34
                            try clear c34b0
                            try clear c34b1
                            try clear c35
                            try clear c35b0
                            try clear c35b1
                            try clear p2
                            obtain ⟨kq, x122_32, rfl, HA, HJ32, HB⟩ := hcut
                            cases kq with
                            | zero => exact absurd HA.out (by simp [laws_FnWide.j4])
                            | succ kj32 =>
                              have H := HA.out
                              clear HA
                              simp only [laws_FnWide.j4] at H
                              by_cases c37 : x122_32 = true
                              · subst c37
                                have H1 : (some false) = some r := by rw [if_pos rfl] at H; exact H
                                clear H
                                have H := H1
                                clear H1
                                obtain rfl := Option.some.inj H
                                go_wp2
                                go_ret
                                exact ⟨by first | rfl | (simp [errW_none, errW_some] <;> rfl) | (simp [*, errW_none, errW_some] <;> rfl), by repeat (first | (with_reducible first | exact HB.out | apply below_alloc | apply pw_below_drewN | apply below_drew1) | exact HB.out)⟩
                              · replace c37 := Bool.eq_false_iff.mpr c37
                                subst c37
                                have H1 : (if t179 = 0 then (some (t187 == 16)) else (if t187 = 0 then (if t185 = t178 then (some (t186 == 0)) else (some false)) else (some false))) = some r := by rw [if_neg (show ¬ (false = true) by decide)] at H; exact H
                                clear H
                                have H := H1
                                clear H1
                                by_cases c38 : t179 = 0
                                · rw [if_pos c38] at H
                                  have c38b0 : (t179 == 0) = true := beq_iff_eq.mpr c38
                                  have c38b1 : (t179 != 0) = false := bne_eq_false_iff_eq.mpr c38
                                  clear c38
                                  obtain rfl := Option.some.inj H
                                  go_wp2
                                  go_ret
                                  exact ⟨by first | rfl | (simp [errW_none, errW_some] <;> rfl) | (simp [*, errW_none, errW_some] <;> rfl), by repeat (first | (with_reducible first | exact HB.out | apply below_alloc | apply pw_below_drewN | apply below_drew1) | exact HB.out)⟩
                                · rw [if_neg c38] at H
                                  have c38b0 : (t179 == 0) = false := beq_eq_false_iff_ne.mpr c38
                                  have c38b1 : (t179 != 0) = true := bne_iff_ne.mpr c38
                                  by_cases c39 : t187 = 0
                                  · rw [if_pos c39] at H
                                    have c39b0 : (t187 == 0) = true := beq_iff_eq.mpr c39
                                    have c39b1 : (t187 != 0) = false := bne_eq_false_iff_eq.mpr c39
                                    clear c39
                                    by_cases c40 : t185 = t178
                                    · rw [if_pos c40] at H
                                      have c40b0 : (t185 == t178) = true := beq_iff_eq.mpr c40
                                      have c40b1 : (t185 != t178) = false := bne_eq_false_iff_eq.mpr c40
                                      clear c40
                                      obtain rfl := Option.some.inj H
                                      go_wp2
                                      go_ret
                                      exact ⟨by first | rfl | (simp [errW_none, errW_some] <;> rfl) | (simp [*, errW_none, errW_some] <;> rfl), by repeat (first | (with_reducible first | exact HB.out | apply below_alloc | apply pw_below_drewN | apply below_drew1) | exact HB.out)⟩
                                    · rw [if_neg c40] at H
                                      have c40b0 : (t185 == t178) = false := beq_eq_false_iff_ne.mpr c40
                                      have c40b1 : (t185 != t178) = true := bne_iff_ne.mpr c40
                                      obtain rfl := Option.some.inj H
                                      go_wp2
                                      go_ret
                                      exact ⟨by first | rfl | (simp [errW_none, errW_some] <;> rfl) | (simp [*, errW_none, errW_some] <;> rfl), by repeat (first | (with_reducible first | exact HB.out | apply below_alloc | apply pw_below_drewN | apply below_drew1) | exact HB.out)⟩
                                  · rw [if_neg c39] at H
                                    have c39b0 : (t187 == 0) = false := beq_eq_false_iff_ne.mpr c39
                                    have c39b1 : (t187 != 0) = true := bne_iff_ne.mpr c39
                                    obtain rfl := Option.some.inj H
                                    go_wp2
                                    go_ret
                                    exact ⟨by first | rfl | (simp [errW_none, errW_some] <;> rfl) | (simp [*, errW_none, errW_some] <;> rfl), by repeat (first | (with_reducible first | exact HB.out | apply below_alloc | apply pw_below_drewN | apply below_drew1) | exact HB.out)⟩
                    · rw [if_neg c26] at H
                      have c26b0 : (t191 == 0) = false := beq_eq_false_iff_ne.mpr c26
                      have c26b1 : (t191 != 0) = true := bne_iff_ne.mpr c26
                      by_cases c41 : t179 = 0
                      · rw [if_pos c41] at H
                        have c41b0 : (t179 == 0) = true := beq_iff_eq.mpr c41
                        have c41b1 : (t179 != 0) = false := bne_eq_false_iff_eq.mpr c41
                        clear c41
                        obtain rfl := Option.some.inj H
                        go_wp2
                        go_ret
                        exact ⟨by first | rfl | (simp [errW_none, errW_some] <;> rfl) | (simp [*, errW_none, errW_some] <;> rfl), by repeat (first | (with_reducible first | exact HB.out | apply below_alloc | apply pw_below_drewN | apply below_drew1) | exact HB.out)⟩
                      · rw [if_neg c41] at H
                        have c41b0 : (t179 == 0) = false := beq_eq_false_iff_ne.mpr c41
                        have c41b1 : (t179 != 0) = true := bne_iff_ne.mpr c41
                        by_cases c42 : t187 = 0
                        · rw [if_pos c42] at H
                          have c42b0 : (t187 == 0) = true := beq_iff_eq.mpr c42
                          have c42b1 : (t187 != 0) = false := bne_eq_false_iff_eq.mpr c42
                          clear c42
                          by_cases c43 : t185 = t178
                          · rw [if_pos c43] at H
                            have c43b0 : (t185 == t178) = true := beq_iff_eq.mpr c43
                            have c43b1 : (t185 != t178) = false := bne_eq_false_iff_eq.mpr c43
                            clear c43
                            obtain rfl := Option.some.inj H
                            go_wp2
                            go_ret
                            exact ⟨by first | rfl | (simp [errW_none, errW_some] <;> rfl) | (simp [*, errW_none, errW_some] <;> rfl), by repeat (first | (with_reducible first | exact HB.out | apply below_alloc | apply pw_below_drewN | apply below_drew1) | exact HB.out)⟩
                          · rw [if_neg c43] at H
                            have c43b0 : (t185 == t178) = false := beq_eq_false_iff_ne.mpr c43
                            have c43b1 : (t185 != t178) = true := bne_iff_ne.mpr c43
                            obtain rfl := Option.some.inj H
                            go_wp2
                            go_ret
                            exact ⟨by first | rfl | (simp [errW_none, errW_some] <;> rfl) | (simp [*, errW_none, errW_some] <;> rfl), by repeat (first | (with_reducible first | exact HB.out | apply below_alloc | apply pw_below_drewN | apply below_drew1) | exact HB.out)⟩
                        · rw [if_neg c42] at H
                          have c42b0 : (t187 == 0) = false := beq_eq_false_iff_ne.mpr c42
                          have c42b1 : (t187 != 0) = true := bne_iff_ne.mpr c42
                          obtain rfl := Option.some.inj H
                          go_wp2
                          go_ret
                          exact ⟨by first | rfl | (simp [errW_none, errW_some] <;> rfl) | (simp [*, errW_none, errW_some] <;> rfl), by repeat (first | (with_reducible first | exact HB.out | apply below_alloc | apply pw_below_drewN | apply below_drew1) | exact HB.out)⟩

/-- THE ONE PURE STATEMENT of laws_FnWide: yours. -/
def laws_FnWide.Pure : Prop := ∀ (l0 : List Int) (l1 : List Int), l0.length ≤ maxLen → l0.length * 1 ≤ 140737488351232 → (∀ x ∈ l0, (Lit.int .u8 x).wf = true) → l1.length ≤ maxLen → l1.length * 1 ≤ 140737488351232 → (∀ x ∈ l1, (Lit.int .u8 x).wf = true) → ∃ k, laws_FnWide.f k l0 l1 = some true
theorem laws_FnWide.walk (P : laws_FnWide.Pure) (a0 : Option Addr) (len0 cap0 : Nat) (z0 : List Int) (a1 : Option Addr) (len1 cap1 : Nat) (z1 : List Int) (w : World) (w0 : (a0 = none ∧ len0 = 0 ∧ cap0 = 0 ∧ z0 = []) ∨ ∃ x, a0 = some x ∧ len0 ≤ cap0 ∧ cap0 ≤ maxLen ∧ z0.length = cap0 ∧ (∀ i, i < z0.length → w.cell? (x.add i) = some (.int .u8 (z0.getD i 0))) ∧ ∀ n ∈ z0, (Lit.int .u8 n).wf = true) (y0 : len0 * 1 ≤ 140737488351232) (w1 : (a1 = none ∧ len1 = 0 ∧ cap1 = 0 ∧ z1 = []) ∨ ∃ x, a1 = some x ∧ len1 ≤ cap1 ∧ cap1 ≤ maxLen ∧ z1.length = cap1 ∧ (∀ i, i < z1.length → w.cell? (x.add i) = some (.int .u8 (z1.getD i 0))) ∧ ∀ n ∈ z1, (Lit.int .u8 n).wf = true) (y1 : len1 * 1 ≤ 140737488351232) :
    Calls Try.prog 9 #[.slice a0 len0 cap0, .slice a1 len1 cap1] w fun e w' => e = .returned (.bool true) ∧ Below w.heap.size w w' := by
  obtain ⟨l0, rfl, hr0, hm0, hw0, hc0⟩ := ReadsInt.ofRowC w0
  obtain ⟨l1, rfl, hr1, hm1, hw1, hc1⟩ := ReadsInt.ofRowC w1
  obtain ⟨k, h⟩ := P l0 l1 hm0 y0 hw0 hm1 y1 hw1
  refine (laws_FnWide.calls k _ _ l0 _ _ l1 true w (Kd.C_of_reads (d := (0 : Int)) (h1 := fun _ => rfl) hr0) hc0 (Kd.C_of_reads (d := (0 : Int)) (h1 := fun _ => rfl) hr1) hc1 h).mono ?_
  rintro e w' ⟨rfl, hd⟩
  exact ⟨rfl, hd⟩

end Go.Proofs.Ytdljhgmgpnpfiaa.PFnWide
