-- Written for this claim by the session's own program, out of the translation. Not trusted: Lean checks it.
import Derived.Test.YtdljhgmgpnpfiaaPFnExactDividex0
import Derived.Test.YtdljhgmgpnpfiaaPFnExactDividex1
namespace Go.Proofs.Ytdljhgmgpnpfiaa.PFnExactDivide
open Go.RowKit Go.Proofs.YtdljhgmgpnpfiaaW.PrintWords Go.Proofs.YtdljhgmgpnpfiaaW.PrintLast Go.Proofs.YtdljhgmgpnpfiaaW.PrintMore
attribute [local go_sem] max2_int min2_int max_two min_two max_three min_three max_four min_four   -- for this text's walks alone
set_option linter.unusedVariables false
set_option linter.unusedSimpArgs false

/-! ### spec_l06Divide: function 55 -/
mutual
def spec_l06Divide.j0 : Nat → Int → Bool → Int → Int → Int → Bool → Bool → Option (Int × Int × Bool)
  | 0, _, _, _, _, _, _, _ => none
  | k + 1, x1, x13, x14, x15, x16, x17, x18 => if x17 = true then (if (IntKind.u64.wrap (-x15)) = 0 then (spec_l06Divide.j1 k x1 x13 (IntKind.u64.wrap ((Go.bits .xor .u64 18446744073709551615 x14) + 1)) (IntKind.u64.wrap (-x15)) x16 x17 x18) else (spec_l06Divide.j1 k x1 x13 (Go.bits .xor .u64 18446744073709551615 x14) (IntKind.u64.wrap (-x15)) x16 x17 x18)) else (spec_l06Divide.j1 k x1 x13 x14 x15 x16 x17 x18)
def spec_l06Divide.j1 : Nat → Int → Bool → Int → Int → Int → Bool → Bool → Option (Int × Int × Bool)
  | 0, _, _, _, _, _, _, _ => none
  | k + 1, x1, x13, x14, x15, x16, x17, x18 => if x14 ≥ x16 then (some (0, 0, false)) else ((spec_l01Divide.f k x14 x15 x16).bind fun bt112 => (if x13 = true then (if 0 ≤ (IntKind.u64.wrap (wrap64 ((wrap64 (8 * x1)) - 1))) then (if bt112.1 > (shl .u64 1 (IntKind.u64.wrap (wrap64 ((wrap64 (8 * x1)) - 1)))) then (spec_l06Divide.j2 k x1 x17 x18 bt112.1 bt112.2 true) else (if bt112.1 = (shl .u64 1 (IntKind.u64.wrap (wrap64 ((wrap64 (8 * x1)) - 1)))) then (spec_l06Divide.j2 k x1 x17 x18 bt112.1 bt112.2 (!x18)) else (spec_l06Divide.j2 k x1 x17 x18 bt112.1 bt112.2 false))) else (none)) else (if x1 = 8 then (some (wrap64 (bt112.1), wrap64 (bt112.2), true)) else (if 0 ≤ (IntKind.u64.wrap (wrap64 (8 * x1))) then (some (wrap64 (bt112.1), wrap64 (bt112.2), ((shr .u64 bt112.1 (IntKind.u64.wrap (wrap64 (8 * x1)))) == 0))) else (none)))))
def spec_l06Divide.j2 : Nat → Int → Bool → Bool → Int → Int → Bool → Option (Int × Int × Bool)
  | 0, _, _, _, _, _, _ => none
  | k + 1, x1, x17, x18, x19, x20, x101 => if x101 = true then (some (0, 0, false)) else (if x18 = true then (spec_l06Divide.j3 k x1 x17 (IntKind.u64.wrap (-x19)) x20) else (spec_l06Divide.j3 k x1 x17 x19 x20))
def spec_l06Divide.j3 : Nat → Int → Bool → Int → Int → Option (Int × Int × Bool)
  | 0, _, _, _, _ => none
  | k + 1, x1, x17, x19, x20 => if x17 = true then ((spec_l01Zero.f k (wrap64 (x19)) x1).bind fun t114 => ((spec_l01Zero.f k (wrap64 (IntKind.u64.wrap (-x20))) x1).bind fun t115 => (some (t114, t115, true)))) else ((spec_l01Zero.f k (wrap64 (x19)) x1).bind fun t116 => ((spec_l01Zero.f k (wrap64 (x20)) x1).bind fun t117 => (some (t116, t117, true))))
end
def spec_l06Divide.f (k : Nat) (a0 : Int) (a1 : Int) (a2 : Int) (a3 : Int) (a4 : Int) : Option (Int × Int × Bool) := (spec_l06Join.f k a1 a2 a3 (a0 == 16)).bind fun bt106 => ((spec_l01Zero.f k a4 a1).bind fun t108 => (if a0 = 16 then ((spec_l01Sign.f k a4 a1).bind fun t109 => ((spec_l06Size.f t109).bind fun t110 => ((spec_l01Sign.f k a4 a1).bind fun t111 => (spec_l06Divide.j0 k a1 (a0 == 16) bt106.1 bt106.2 t110 ((bt106.1 / 9223372036854775808) == 1) (((bt106.1 / 9223372036854775808) == 1) != (decide (t111 < 0))))))) else (spec_l06Divide.j0 k a1 (a0 == 16) bt106.1 bt106.2 (IntKind.u64.wrap (t108)) false false)))
theorem spec_l06Divide.mono_l : ∀ k, (∀ y0 y1 y2 y3 y4 y5 y6, LeO (spec_l06Divide.j0 k y0 y1 y2 y3 y4 y5 y6) (spec_l06Divide.j0 (k + 1) y0 y1 y2 y3 y4 y5 y6)) ∧ (∀ y0 y1 y2 y3 y4 y5 y6, LeO (spec_l06Divide.j1 k y0 y1 y2 y3 y4 y5 y6) (spec_l06Divide.j1 (k + 1) y0 y1 y2 y3 y4 y5 y6)) ∧ (∀ y0 y1 y2 y3 y4 y5, LeO (spec_l06Divide.j2 k y0 y1 y2 y3 y4 y5) (spec_l06Divide.j2 (k + 1) y0 y1 y2 y3 y4 y5)) ∧ (∀ y0 y1 y2 y3, LeO (spec_l06Divide.j3 k y0 y1 y2 y3) (spec_l06Divide.j3 (k + 1) y0 y1 y2 y3))
  | 0 => ⟨fun _ _ _ _ _ _ _ r h => by simp [spec_l06Divide.j0] at h, fun _ _ _ _ _ _ _ r h => by simp [spec_l06Divide.j1] at h, fun _ _ _ _ _ _ r h => by simp [spec_l06Divide.j2] at h, fun _ _ _ _ r h => by simp [spec_l06Divide.j3] at h⟩
  | k + 1 => by
    obtain ⟨ih0, ih1, ih2, ih3⟩ := spec_l06Divide.mono_l k
    refine ⟨?_, ?_, ?_, ?_⟩
    · intro y0 y1 y2 y3 y4 y5 y6
      unfold spec_l06Divide.j0
      repeat' first
      | (with_reducible exact ih0 _ _ _ _ _ _ _)
      | (with_reducible exact ih1 _ _ _ _ _ _ _)
      | (with_reducible exact ih2 _ _ _ _ _ _)
      | (with_reducible exact ih3 _ _ _ _)
      | (with_reducible exact spec_l01Divide.mono _ _ _ _)
      | (with_reducible exact spec_l01Sign.mono _ _ _)
      | (with_reducible exact spec_l01Zero.mono _ _ _)
      | (with_reducible exact spec_l06Join.mono _ _ _ _ _)
      | (with_reducible exact LeO.refl _)
      | (with_reducible exact LeO.none _)
      | (with_reducible refine LeO.ite ?_ ?_)
      | (with_reducible refine LeO.bind ?_ (fun _ => ?_))
      | exact ih0 _ _ _ _ _ _ _
      | exact ih1 _ _ _ _ _ _ _
      | exact ih2 _ _ _ _ _ _
      | exact ih3 _ _ _ _
      | exact spec_l01Divide.mono _ _ _ _
      | exact spec_l01Sign.mono _ _ _
      | exact spec_l01Zero.mono _ _ _
      | exact spec_l06Join.mono _ _ _ _ _
      | exact LeO.none _
      | refine LeO.ite ?_ ?_
      | refine LeO.bind ?_ (fun _ => ?_)
    · intro y0 y1 y2 y3 y4 y5 y6
      unfold spec_l06Divide.j1
      repeat' first
      | (with_reducible exact ih0 _ _ _ _ _ _ _)
      | (with_reducible exact ih1 _ _ _ _ _ _ _)
      | (with_reducible exact ih2 _ _ _ _ _ _)
      | (with_reducible exact ih3 _ _ _ _)
      | (with_reducible exact spec_l01Divide.mono _ _ _ _)
      | (with_reducible exact spec_l01Sign.mono _ _ _)
      | (with_reducible exact spec_l01Zero.mono _ _ _)
      | (with_reducible exact spec_l06Join.mono _ _ _ _ _)
      | (with_reducible exact LeO.refl _)
      | (with_reducible exact LeO.none _)
      | (with_reducible refine LeO.ite ?_ ?_)
      | (with_reducible refine LeO.bind ?_ (fun _ => ?_))
      | exact ih0 _ _ _ _ _ _ _
      | exact ih1 _ _ _ _ _ _ _
      | exact ih2 _ _ _ _ _ _
      | exact ih3 _ _ _ _
      | exact spec_l01Divide.mono _ _ _ _
      | exact spec_l01Sign.mono _ _ _
      | exact spec_l01Zero.mono _ _ _
      | exact spec_l06Join.mono _ _ _ _ _
      | exact LeO.none _
      | refine LeO.ite ?_ ?_
      | refine LeO.bind ?_ (fun _ => ?_)
    · intro y0 y1 y2 y3 y4 y5
      unfold spec_l06Divide.j2
      repeat' first
      | (with_reducible exact ih0 _ _ _ _ _ _ _)
      | (with_reducible exact ih1 _ _ _ _ _ _ _)
      | (with_reducible exact ih2 _ _ _ _ _ _)
      | (with_reducible exact ih3 _ _ _ _)
      | (with_reducible exact spec_l01Divide.mono _ _ _ _)
      | (with_reducible exact spec_l01Sign.mono _ _ _)
      | (with_reducible exact spec_l01Zero.mono _ _ _)
      | (with_reducible exact spec_l06Join.mono _ _ _ _ _)
      | (with_reducible exact LeO.refl _)
      | (with_reducible exact LeO.none _)
      | (with_reducible refine LeO.ite ?_ ?_)
      | (with_reducible refine LeO.bind ?_ (fun _ => ?_))
      | exact ih0 _ _ _ _ _ _ _
      | exact ih1 _ _ _ _ _ _ _
      | exact ih2 _ _ _ _ _ _
      | exact ih3 _ _ _ _
      | exact spec_l01Divide.mono _ _ _ _
      | exact spec_l01Sign.mono _ _ _
      | exact spec_l01Zero.mono _ _ _
      | exact spec_l06Join.mono _ _ _ _ _
      | exact LeO.none _
      | refine LeO.ite ?_ ?_
      | refine LeO.bind ?_ (fun _ => ?_)
    · intro y0 y1 y2 y3
      unfold spec_l06Divide.j3
      repeat' first
      | (with_reducible exact ih0 _ _ _ _ _ _ _)
      | (with_reducible exact ih1 _ _ _ _ _ _ _)
      | (with_reducible exact ih2 _ _ _ _ _ _)
      | (with_reducible exact ih3 _ _ _ _)
      | (with_reducible exact spec_l01Divide.mono _ _ _ _)
      | (with_reducible exact spec_l01Sign.mono _ _ _)
      | (with_reducible exact spec_l01Zero.mono _ _ _)
      | (with_reducible exact spec_l06Join.mono _ _ _ _ _)
      | (with_reducible exact LeO.refl _)
      | (with_reducible exact LeO.none _)
      | (with_reducible refine LeO.ite ?_ ?_)
      | (with_reducible refine LeO.bind ?_ (fun _ => ?_))
      | exact ih0 _ _ _ _ _ _ _
      | exact ih1 _ _ _ _ _ _ _
      | exact ih2 _ _ _ _ _ _
      | exact ih3 _ _ _ _
      | exact spec_l01Divide.mono _ _ _ _
      | exact spec_l01Sign.mono _ _ _
      | exact spec_l01Zero.mono _ _ _
      | exact spec_l06Join.mono _ _ _ _ _
      | exact LeO.none _
      | refine LeO.ite ?_ ?_
      | refine LeO.bind ?_ (fun _ => ?_)
theorem spec_l06Divide.mono : ∀ a0 a1 a2 a3 a4 k, LeO (spec_l06Divide.f k a0 a1 a2 a3 a4) (spec_l06Divide.f (k + 1) a0 a1 a2 a3 a4) := by
  intro a0 a1 a2 a3 a4 k
  obtain ⟨ih0, ih1, ih2, ih3⟩ := spec_l06Divide.mono_l k
  unfold spec_l06Divide.f
  repeat' first
      | (with_reducible exact ih0 _ _ _ _ _ _ _)
      | (with_reducible exact ih1 _ _ _ _ _ _ _)
      | (with_reducible exact ih2 _ _ _ _ _ _)
      | (with_reducible exact ih3 _ _ _ _)
      | (with_reducible exact spec_l01Divide.mono _ _ _ _)
      | (with_reducible exact spec_l01Sign.mono _ _ _)
      | (with_reducible exact spec_l01Zero.mono _ _ _)
      | (with_reducible exact spec_l06Join.mono _ _ _ _ _)
      | (with_reducible exact LeO.refl _)
      | (with_reducible exact LeO.none _)
      | (with_reducible refine LeO.ite ?_ ?_)
      | (with_reducible refine LeO.bind ?_ (fun _ => ?_))
      | exact ih0 _ _ _ _ _ _ _
      | exact ih1 _ _ _ _ _ _ _
      | exact ih2 _ _ _ _ _ _
      | exact ih3 _ _ _ _
      | exact spec_l01Divide.mono _ _ _ _
      | exact spec_l01Sign.mono _ _ _
      | exact spec_l01Zero.mono _ _ _
      | exact spec_l06Join.mono _ _ _ _ _
      | exact LeO.none _
      | refine LeO.ite ?_ ?_
      | refine LeO.bind ?_ (fun _ => ?_)
set_option maxHeartbeats 8000000 in
set_option maxRecDepth 100000 in
theorem spec_l06Divide.calls (k : Nat) (a0 : Int) (a1 : Int) (a2 : Int) (a3 : Int) (a4 : Int) (r1 : Int) (r2 : Int) (r3 : Bool) (w : World) (h : spec_l06Divide.f k a0 a1 a2 a3 a4 = some (r1, r2, r3)) :
    Calls Try.prog 55 #[.int .i64 a0, .int .i64 a1, .int .i64 a2, .int .i64 a3, .int .i64 a4] w fun e w' => e = .returned (.tuple #[.int .i64 r1, .int .i64 r2, .bool r3]) ∧ Below w.heap.size w w' := by
  have HB := Aside0.mk (Below.refl w.heap.size w)
  have H : ((spec_l06Join.f k a1 a2 a3 (a0 == 16)).bind fun bt106 => ((spec_l01Zero.f k a4 a1).bind fun t108 => (if a0 = 16 then ((spec_l01Sign.f k a4 a1).bind fun t109 => ((spec_l06Size.f t109).bind fun t110 => ((spec_l01Sign.f k a4 a1).bind fun t111 => (spec_l06Divide.j0 k a1 (a0 == 16) bt106.1 bt106.2 t110 ((bt106.1 / 9223372036854775808) == 1) (((bt106.1 / 9223372036854775808) == 1) != (decide (t111 < 0))))))) else (spec_l06Divide.j0 k a1 (a0 == 16) bt106.1 bt106.2 (IntKind.u64.wrap (t108)) false false)))) = some (r1, r2, r3) := h
  clear h
  replace H := Option.bind_eq_some_iff.mp H
  obtain ⟨⟨t106, t107⟩, A60, H⟩ := H
  replace H : ((spec_l01Zero.f k a4 a1).bind fun t108 => (if a0 = 16 then ((spec_l01Sign.f k a4 a1).bind fun t109 => ((spec_l06Size.f t109).bind fun t110 => ((spec_l01Sign.f k a4 a1).bind fun t111 => (spec_l06Divide.j0 k a1 (a0 == 16) t106 t107 t110 ((t106 / 9223372036854775808) == 1) (((t106 / 9223372036854775808) == 1) != (decide (t111 < 0))))))) else (spec_l06Divide.j0 k a1 (a0 == 16) t106 t107 (IntKind.u64.wrap (t108)) false false))) = some (r1, r2, r3) := H
  have A6 := Aside0.mk A60
  clear A60
  replace H := Option.bind_eq_some_iff.mp H
  obtain ⟨t108, A70, H⟩ := H
  replace H : (if a0 = 16 then ((spec_l01Sign.f k a4 a1).bind fun t109 => ((spec_l06Size.f t109).bind fun t110 => ((spec_l01Sign.f k a4 a1).bind fun t111 => (spec_l06Divide.j0 k a1 (a0 == 16) t106 t107 t110 ((t106 / 9223372036854775808) == 1) (((t106 / 9223372036854775808) == 1) != (decide (t111 < 0))))))) else (spec_l06Divide.j0 k a1 (a0 == 16) t106 t107 (IntKind.u64.wrap (t108)) false false)) = some (r1, r2, r3) := H
  have A7 := Aside0.mk A70
  clear A70
  have HC8 := Aside0.mk H
  clear H
  go_enter Try.func55, Try.ntmps55
  go_upto_if 36 with (first | ((with_reducible refine gate_callee (f := 85) rfl ?_); refine goesL_ (some 29) rfl rfl Try.func85 (by kernel_rfl) rfl #[.int .i64 a1, .int .i64 a2, .int .i64 a3, .bool (a0 == 16)] rfl (by (try simp only [List.map_toArray, List.map_cons, List.map_nil]); first | done | rfl | (simp only [List.length_drop, List.length_take]; rfl)) ?_; (with_reducible refine (spec_l06Join.calls k a1 a2 a3 (a0 == 16) t106 t107 _ A6.out).mono ?_); rintro e w' ⟨rfl, ⟨nd, rfl⟩⟩; refine ⟨_, rfl, ?_⟩) | ((with_reducible refine gate_callee (f := 61) rfl ?_); refine goesL_ (some 34) rfl rfl Try.func61 (by kernel_rfl) rfl #[.int .i64 a4, .int .i64 a1] rfl (by (try simp only [List.map_toArray, List.map_cons, List.map_nil]); first | done | rfl | (simp only [List.length_drop, List.length_take]; rfl)) ?_; (with_reducible refine (spec_l01Zero.calls k a4 a1 t108 _ A7.out).mono ?_); rintro e w' ⟨rfl, ⟨nd, rfl⟩⟩; refine ⟨_, rfl, ?_⟩))
  (try simp only [Act.put, List.setIfInBounds_toArray, List.set_cons_zero, List.set_cons_succ])
  go_cut [16, 17, 18] (fun v16 v17 v18 wc => ∃ (kq : Nat) (x16_7 : Int) (x17_7 : Bool) (x18_7 : Bool), v16 = .int .u64 x16_7 ∧ v17 = .bool x17_7 ∧ v18 = .bool x18_7 ∧ Aside0 (spec_l06Divide.j0 kq a1 (a0 == 16) t106 t107 x16_7 x17_7 x18_7 = some (r1, r2, r3)) ∧ Aside0 (kq ≤ k) ∧ Aside0 (Below w.heap.size w wc))
  case first =>
    have H := HC8.out
    clear HC8
    by_cases c9 : a0 = 16
    · rw [if_pos c9] at H
      have c9b0 : (a0 == 16) = true := beq_iff_eq.mpr c9
      have c9b1 : (a0 != 16) = false := bne_eq_false_iff_eq.mpr c9
      clear c9
      (first | rw [c9b0] | (simp only [i64_w, i32_w]; rw [c9b0]) | skip)
      replace H := Option.bind_eq_some_iff.mp H
      obtain ⟨t109, A100, H⟩ := H
      replace H : ((spec_l06Size.f t109).bind fun t110 => ((spec_l01Sign.f k a4 a1).bind fun t111 => (spec_l06Divide.j0 k a1 (a0 == 16) t106 t107 t110 ((t106 / 9223372036854775808) == 1) (((t106 / 9223372036854775808) == 1) != (decide (t111 < 0)))))) = some (r1, r2, r3) := H
      have A10 := Aside0.mk A100
      clear A100
      replace H := Option.bind_eq_some_iff.mp H
      obtain ⟨t110, A110, H⟩ := H
      replace H : ((spec_l01Sign.f k a4 a1).bind fun t111 => (spec_l06Divide.j0 k a1 (a0 == 16) t106 t107 t110 ((t106 / 9223372036854775808) == 1) (((t106 / 9223372036854775808) == 1) != (decide (t111 < 0))))) = some (r1, r2, r3) := H
      have A11 := Aside0.mk A110
      clear A110
      replace H := Option.bind_eq_some_iff.mp H
      obtain ⟨t111, A120, H⟩ := H
      replace H : (spec_l06Divide.j0 k a1 (a0 == 16) t106 t107 t110 ((t106 / 9223372036854775808) == 1) (((t106 / 9223372036854775808) == 1) != (decide (t111 < 0)))) = some (r1, r2, r3) := H
      have A12 := Aside0.mk A120
      clear A120
      have H' := Aside0.mk H
      clear H
      go_wp2_with (first | ((with_reducible refine gate_callee (f := 71) rfl ?_); refine goesL_ (some 39) rfl rfl Try.func71 (by kernel_rfl) rfl #[.int .i64 a4, .int .i64 a1] rfl (by (try simp only [List.map_toArray, List.map_cons, List.map_nil]); first | done | rfl | (simp only [List.length_drop, List.length_take]; rfl)) ?_; (with_reducible refine (spec_l01Sign.calls k a4 a1 t109 _ A10.out).mono ?_); rintro e w13 ⟨rfl, hb⟩; refine ⟨_, rfl, ?_⟩; have n0_ := Aside0.mk (below_step (by repeat (first | (with_reducible first | exact HB.out | apply below_alloc | apply pw_below_drewN | apply below_drew1) | exact HB.out)) hb); clear HB; have HB := n0_; clear n0_; (try clear hb); (try clear hb2); (try clear hk); (try clear hi)) | ((with_reducible refine gate_callee (f := 86) rfl ?_); refine goesL_ (some 40) rfl rfl Try.func86 (by kernel_rfl) rfl #[.int .i64 t109] rfl (by (try simp only [List.map_toArray, List.map_cons, List.map_nil]); first | done | rfl | (simp only [List.length_drop, List.length_take]; rfl)) ?_; (with_reducible refine (spec_l06Size.calls t109 t110 _ A11.out).mono ?_); rintro e w' ⟨rfl, ⟨nd, rfl⟩⟩; refine ⟨_, rfl, ?_⟩) | ((with_reducible refine gate_callee (f := 71) rfl ?_); refine goesL_ (some 47) rfl rfl Try.func71 (by kernel_rfl) rfl #[.int .i64 a4, .int .i64 a1] rfl (by (try simp only [List.map_toArray, List.map_cons, List.map_nil]); first | done | rfl | (simp only [List.length_drop, List.length_take]; rfl)) ?_; (with_reducible refine (spec_l01Sign.calls k a4 a1 t111 _ A12.out).mono ?_); rintro e w14 ⟨rfl, hb⟩; refine ⟨_, rfl, ?_⟩; have n0_ := Aside0.mk (below_step (by repeat (first | (with_reducible first | exact HB.out | apply below_alloc | apply pw_below_drewN | apply below_drew1) | exact HB.out)) hb); clear HB; have HB := n0_; clear n0_; (try clear hb); (try clear hb2); (try clear hk); (try clear hi)))
      (first | go_meet | ((try simp only [c9b0] at *); (try simp only [c9b1] at *); go_meet))
      case rel => (try rw [c9b0]); (try rw [c9b0] at H'); (try rw [c9b1]); (try rw [c9b1] at H'); exact ⟨_, (t110), (((t106 / 9223372036854775808) == 1)), ((((t106 / 9223372036854775808) == 1) != (decide (t111 < 0)))), (by first | rfl | (simp; done) | (simp [*]; done)), (by first | rfl | (simp; done) | (simp [*]; done)), (by first | rfl | (simp; done) | (simp [*]; done)), H', ⟨by first | omega | exact Nat.le_refl _⟩, ⟨by repeat (first | (with_reducible first | exact HB.out | apply below_alloc | apply pw_below_drewN | apply below_drew1) | exact HB.out)⟩⟩
    · rw [if_neg c9] at H
      have c9b0 : (a0 == 16) = false := beq_eq_false_iff_ne.mpr c9
      have c9b1 : (a0 != 16) = true := bne_iff_ne.mpr c9
      (first | rw [c9b0] | (simp only [i64_w, i32_w]; rw [c9b0]) | skip)
      have H' := Aside0.mk H
      clear H
      go_wp2
      (first | go_meet | ((try simp only [c9b0] at *); (try simp only [c9b1] at *); go_meet))
      case rel => (try rw [c9b0]); (try rw [c9b0] at H'); (try rw [c9b1]); (try rw [c9b1] at H'); exact ⟨_, (IntKind.u64.wrap (t108)), (false), (false), (by first | rfl | (simp; done) | (simp [*]; done)), (by first | rfl | (simp; done) | (simp [*]; done)), (by first | rfl | (simp; done) | (simp [*]; done)), H', ⟨by first | omega | exact Nat.le_refl _⟩, ⟨by repeat (first | (with_reducible first | exact HB.out | apply below_alloc | apply pw_below_drewN | apply below_drew1) | exact HB.out)⟩⟩
  case rest =>
    clear HC8
    try clear p2
    try clear c5
    try clear c6
    try clear c7
    try clear c8
    try clear c9
    try clear c9b0
    try clear c9b1
    obtain ⟨kq, x16_7, x17_7, x18_7, rfl, rfl, rfl, HA, HJ7, HB⟩ := hcut
    cases kq with
    | zero => exact absurd HA.out (by simp [spec_l06Divide.j0])
    | succ kj7 =>
      have H := HA.out
      clear HA
      simp only [spec_l06Divide.j0] at H
      have HC15 := Aside0.mk H
      clear H
      go_upto_if 50 with (fail)
      go_cut [14, 15] (fun v14 v15 wc => ∃ (kq : Nat) (x14_14 : Int) (x15_14 : Int), v14 = .int .u64 x14_14 ∧ v15 = .int .u64 x15_14 ∧ Aside0 (spec_l06Divide.j1 kq a1 (a0 == 16) x14_14 x15_14 x16_7 x17_7 x18_7 = some (r1, r2, r3)) ∧ Aside0 (kq ≤ kj7) ∧ Aside0 (Below w.heap.size w wc))
      case first =>
        have H := HC15.out
        clear HC15
        by_cases c16 : x17_7 = true
        · subst c16
          have H1 : (if (IntKind.u64.wrap (-t107)) = 0 then (spec_l06Divide.j1 kj7 a1 (a0 == 16) (IntKind.u64.wrap ((Go.bits .xor .u64 18446744073709551615 t106) + 1)) (IntKind.u64.wrap (-t107)) x16_7 true x18_7) else (spec_l06Divide.j1 kj7 a1 (a0 == 16) (Go.bits .xor .u64 18446744073709551615 t106) (IntKind.u64.wrap (-t107)) x16_7 true x18_7)) = some (r1, r2, r3) := by rw [if_pos rfl] at H; exact H
          clear H
          have H := H1
          clear H1
          by_cases c17 : (IntKind.u64.wrap (-t107)) = 0
          · rw [if_pos c17] at H
            have c17b0 : ((IntKind.u64.wrap (-t107)) == 0) = true := beq_iff_eq.mpr c17
            have c17b1 : ((IntKind.u64.wrap (-t107)) != 0) = false := bne_eq_false_iff_eq.mpr c17
            clear c17
            (first | rw [c17b0] | (simp only [i64_w, i32_w]; rw [c17b0]) | skip)
            have H' := Aside0.mk H
            clear H
            go_wp2
            (first | go_meet | ((try simp only [c9b0] at *); (try simp only [c9b1] at *); (try simp only [c17b0] at *); (try simp only [c17b1] at *); go_meet))
            case rel => (try rw [c9b0]); (try rw [c9b0] at H'); (try rw [c9b1]); (try rw [c9b1] at H'); (try rw [c17b0]); (try rw [c17b0] at H'); (try rw [c17b1]); (try rw [c17b1] at H'); exact ⟨_, (IntKind.u64.wrap ((Go.bits .xor .u64 18446744073709551615 t106) + 1)), (IntKind.u64.wrap (-t107)), (by first | rfl | (simp; done) | (simp [*]; done)), (by first | rfl | (simp; done) | (simp [*]; done)), H', ⟨by have := HJ7.out; first | omega | exact Nat.le_refl _⟩, ⟨by repeat (first | (with_reducible first | exact HB.out | apply below_alloc | apply pw_below_drewN | apply below_drew1) | exact HB.out)⟩⟩
          · rw [if_neg c17] at H
            have c17b0 : ((IntKind.u64.wrap (-t107)) == 0) = false := beq_eq_false_iff_ne.mpr c17
            have c17b1 : ((IntKind.u64.wrap (-t107)) != 0) = true := bne_iff_ne.mpr c17
            (first | rw [c17b0] | (simp only [i64_w, i32_w]; rw [c17b0]) | skip)
            have H' := Aside0.mk H
            clear H
            go_wp2
            (first | go_meet | ((try simp only [c9b0] at *); (try simp only [c9b1] at *); (try simp only [c17b0] at *); (try simp only [c17b1] at *); go_meet))
            case rel => (try rw [c9b0]); (try rw [c9b0] at H'); (try rw [c9b1]); (try rw [c9b1] at H'); (try rw [c17b0]); (try rw [c17b0] at H'); (try rw [c17b1]); (try rw [c17b1] at H'); exact ⟨_, (Go.bits .xor .u64 18446744073709551615 t106), (IntKind.u64.wrap (-t107)), (by first | rfl | (simp; done) | (simp [*]; done)), (by first | rfl | (simp; done) | (simp [*]; done)), H', ⟨by have := HJ7.out; first | omega | exact Nat.le_refl _⟩, ⟨by repeat (first | (with_reducible first | exact HB.out | apply below_alloc | apply pw_below_drewN | apply below_drew1) | exact HB.out)⟩⟩
        · replace c16 := Bool.eq_false_iff.mpr c16
          subst c16
          have H1 : (spec_l06Divide.j1 kj7 a1 (a0 == 16) t106 t107 x16_7 false x18_7) = some (r1, r2, r3) := by rw [if_neg (show ¬ (false = true) by decide)] at H; exact H
          clear H
          have H := H1
          clear H1
          have H' := Aside0.mk H
          clear H
          go_wp2
          (first | go_meet | ((try simp only [c9b0] at *); (try simp only [c9b1] at *); (try simp only [c17b0] at *); (try simp only [c17b1] at *); go_meet))
          case rel => (try rw [c9b0]); (try rw [c9b0] at H'); (try rw [c9b1]); (try rw [c9b1] at H'); (try rw [c17b0]); (try rw [c17b0] at H'); (try rw [c17b1]); (try rw [c17b1] at H'); exact ⟨_, (t106), (t107), (by first | rfl | (simp; done) | (simp [*]; done)), (by first | rfl | (simp; done) | (simp [*]; done)), H', ⟨by have := HJ7.out; first | omega | exact Nat.le_refl _⟩, ⟨by repeat (first | (with_reducible first | exact HB.out | apply below_alloc | apply pw_below_drewN | apply below_drew1) | exact HB.out)⟩⟩
      case rest =>
        clear HC15
        try clear c1
        try clear p2
        try clear c5
        try clear c6
        try clear c7
        try clear c8
        try clear c9
        try clear c9b0
        try clear c9b1
        try clear c16
        try clear c17
        try clear c17b0
        try clear c17b1
        try clear p2
        obtain ⟨kq, x14_14, x15_14, rfl, rfl, HA, HJ14, HB⟩ := hcut
        cases kq with
        | zero => exact absurd HA.out (by simp [spec_l06Divide.j1])
        | succ kj14 =>
          have H := HA.out
          clear HA
          simp only [spec_l06Divide.j1] at H
          by_cases c18 : x14_14 ≥ x16_7
          · rw [if_pos c18] at H
            have c18b0 : decide (x16_7 ≤ x14_14) = true := decide_eq_true c18
            clear c18
            simp only [Option.some.injEq, Prod.mk.injEq] at H
            obtain ⟨rfl, rfl, rfl⟩ := H
            go_wp2
            go_ret3
            exact ⟨by first | rfl | (simp [errW_none, errW_some] <;> rfl) | (simp [*, errW_none, errW_some] <;> rfl), by repeat (first | (with_reducible first | exact HB.out | apply below_alloc | apply pw_below_drewN | apply below_drew1) | exact HB.out)⟩
          · rw [if_neg c18] at H
            have c18b0 : decide (x16_7 ≤ x14_14) = false := decide_eq_false c18
            clear c18
            replace H := Option.bind_eq_some_iff.mp H
            obtain ⟨⟨t112, t113⟩, A190, H⟩ := H
            replace H : (if (a0 == 16) = true then (if 0 ≤ (IntKind.u64.wrap (wrap64 ((wrap64 (8 * a1)) - 1))) then (if t112 > (shl .u64 1 (IntKind.u64.wrap (wrap64 ((wrap64 (8 * a1)) - 1)))) then (spec_l06Divide.j2 kj14 a1 x17_7 x18_7 t112 t113 true) else (if t112 = (shl .u64 1 (IntKind.u64.wrap (wrap64 ((wrap64 (8 * a1)) - 1)))) then (spec_l06Divide.j2 kj14 a1 x17_7 x18_7 t112 t113 (!x18_7)) else (spec_l06Divide.j2 kj14 a1 x17_7 x18_7 t112 t113 false))) else (none)) else (if a1 = 8 then (some (wrap64 (t112), wrap64 (t113), true)) else (if 0 ≤ (IntKind.u64.wrap (wrap64 (8 * a1))) then (some (wrap64 (t112), wrap64 (t113), ((shr .u64 t112 (IntKind.u64.wrap (wrap64 (8 * a1)))) == 0))) else (none)))) = some (r1, r2, r3) := H
            have A19 := Aside0.mk A190
            clear A190
            by_cases c20 : (a0 == 16) = true
            · rw [if_pos c20] at H
              have c20b0 : (a0 == 16) = true := c20
              (try (have c20b1 : decide (a0 = 16) = true := by simpa using c20))
              (try (have c20b2 : (a0 == 16) = true := by simpa using c20))
              clear c20
              obtain ⟨ji21, hji21⟩ : ∃ j_ : Int, (IntKind.u64.wrap (wrap64 ((wrap64 (8 * a1)) - 1))) = j_ := ⟨_, rfl⟩
              replace H : (if 0 ≤ (ji21) then (if t112 > (shl .u64 1 (ji21)) then (spec_l06Divide.j2 kj14 a1 x17_7 x18_7 t112 t113 true) else (if t112 = (shl .u64 1 (ji21)) then (spec_l06Divide.j2 kj14 a1 x17_7 x18_7 t112 t113 (!x18_7)) else (spec_l06Divide.j2 kj14 a1 x17_7 x18_7 t112 t113 false))) else (none)) = some (r1, r2, r3) := by first | (rw [hji21] at H; exact H) | (simp only [hji21] at H ⊢; exact H)
              (try rw [hji21] at A19)
              by_cases c22 : 0 ≤ (ji21)
              · rw [if_pos c22] at H
                have c22b0 := eq_true c22
                have c22b1 : decide (0 ≤ (ji21)) = true := decide_eq_true c22
                clear c22
                obtain ⟨ji23, hji23⟩ : ∃ j_ : Int, (shl .u64 1 (ji21)) = j_ := ⟨_, rfl⟩
                replace H : (if t112 > (ji23) then (spec_l06Divide.j2 kj14 a1 x17_7 x18_7 t112 t113 true) else (if t112 = (ji23) then (spec_l06Divide.j2 kj14 a1 x17_7 x18_7 t112 t113 (!x18_7)) else (spec_l06Divide.j2 kj14 a1 x17_7 x18_7 t112 t113 false))) = some (r1, r2, r3) := by first | (rw [hji23] at H; exact H) | (simp only [hji23] at H ⊢; exact H)
                (try rw [hji23] at A19)
                have hji23_ : (IntKind.u64.wrap (1 * 2 ^ min (ji21).toNat 64)) = ji23 := hji23
                have hji23z : (ji21) ≤ 64 → (IntKind.u64.wrap (1 * 2 ^ (ji21).toNat)) = ji23 := shl_small hji23
                have hji23u : (IntKind.u64.wrap (2 ^ min (ji21).toNat 64)) = ji23 := by have h_ := hji23_; rw [Int.one_mul] at h_; exact h_
                have hji23v : (ji21) ≤ 64 → (IntKind.u64.wrap (2 ^ (ji21).toNat)) = ji23 := fun hle_ => by have h_ := hji23z hle_; rw [Int.one_mul] at h_; exact h_
                have HC24 := Aside0.mk H
                clear H
                go_upto_region 21 with (first | ((with_reducible refine gate_callee (f := 87) rfl ?_); refine goesL_ (some 66) rfl rfl Try.func87 (by kernel_rfl) rfl #[.int .u64 x14_14, .int .u64 x15_14, .int .u64 x16_7] rfl (by (try simp only [List.map_toArray, List.map_cons, List.map_nil]); first | done | rfl | (simp only [List.length_drop, List.length_take]; rfl)) ?_; (with_reducible refine (spec_l01Divide.calls kj14 x14_14 x15_14 x16_7 t112 t113 _ A19.out).mono ?_); rintro e w' ⟨rfl, ⟨nd, rfl⟩⟩; refine ⟨_, rfl, ?_⟩))
                (try simp only [Act.put, List.setIfInBounds_toArray, List.set_cons_zero, List.set_cons_succ])
                go_cut [101] (fun v101 wc => ∃ (kq : Nat) (x101_23 : Bool), v101 = .bool x101_23 ∧ Aside0 (spec_l06Divide.j2 kq a1 x17_7 x18_7 t112 t113 x101_23 = some (r1, r2, r3)) ∧ Aside0 (kq ≤ kj14) ∧ Aside0 (Below w.heap.size w wc))
                case first =>
                  have H := HC24.out
                  clear HC24
                  by_cases c25 : t112 > (ji23)
                  · rw [if_pos c25] at H
                    have c25b0 : decide ((ji23) < t112) = true := decide_eq_true c25
                    clear c25
                    (first | rw [c25b0] | (simp only [i64_w, i32_w]; rw [c25b0]) | skip)
                    have H' := Aside0.mk H
                    clear H
                    go_wp2
                    (first | go_meet | ((try simp only [c9b0] at *); (try simp only [c9b1] at *); (try simp only [c17b0] at *); (try simp only [c17b1] at *); (try simp only [c20b0] at *); go_meet))
                    case rel => (try rw [c9b0]); (try rw [c9b0] at H'); (try rw [c9b1]); (try rw [c9b1] at H'); (try rw [c17b0]); (try rw [c17b0] at H'); (try rw [c17b1]); (try rw [c17b1] at H'); (try rw [c20b0]); (try rw [c20b0] at H'); exact ⟨_, (true), (by first | rfl | (simp; done) | (simp [*]; done)), H', ⟨by have := HJ7.out; have := HJ14.out; first | omega | exact Nat.le_refl _⟩, ⟨by repeat (first | (with_reducible first | exact HB.out | apply below_alloc | apply pw_below_drewN | apply below_drew1) | exact HB.out)⟩⟩
                  · rw [if_neg c25] at H
                    have c25b0 : decide ((ji23) < t112) = false := decide_eq_false c25
                    clear c25
                    (first | rw [c25b0] | (simp only [i64_w, i32_w]; rw [c25b0]) | skip)
                    by_cases c26 : t112 = (ji23)
                    · rw [if_pos c26] at H
                      have c26b0 : (t112 == (ji23)) = true := beq_iff_eq.mpr c26
                      have c26b1 : (t112 != (ji23)) = false := bne_eq_false_iff_eq.mpr c26
                      clear c26
                      have H' := Aside0.mk H
                      clear H
                      go_wp2
                      (first | go_meet | ((try simp only [c9b0] at *); (try simp only [c9b1] at *); (try simp only [c17b0] at *); (try simp only [c17b1] at *); (try simp only [c20b0] at *); (try simp only [c26b0] at *); (try simp only [c26b1] at *); go_meet))
                      case rel => (try rw [c9b0]); (try rw [c9b0] at H'); (try rw [c9b1]); (try rw [c9b1] at H'); (try rw [c17b0]); (try rw [c17b0] at H'); (try rw [c17b1]); (try rw [c17b1] at H'); (try rw [c20b0]); (try rw [c20b0] at H'); (try rw [c26b0]); (try rw [c26b0] at H'); (try rw [c26b1]); (try rw [c26b1] at H'); exact ⟨_, (!x18_7), (by first | rfl | (simp; done) | (simp [*]; done)), H', ⟨by have := HJ7.out; have := HJ14.out; first | omega | exact Nat.le_refl _⟩, ⟨by repeat (first | (with_reducible first | exact HB.out | apply below_alloc | apply pw_below_drewN | apply below_drew1) | exact HB.out)⟩⟩
                    · rw [if_neg c26] at H
                      have c26b0 : (t112 == (ji23)) = false := beq_eq_false_iff_ne.mpr c26
                      have c26b1 : (t112 != (ji23)) = true := bne_iff_ne.mpr c26
                      have H' := Aside0.mk H
                      clear H
                      go_wp2
                      (first | go_meet | ((try simp only [c9b0] at *); (try simp only [c9b1] at *); (try simp only [c17b0] at *); (try simp only [c17b1] at *); (try simp only [c20b0] at *); (try simp only [c26b0] at *); (try simp only [c26b1] at *); go_meet))
                      case rel => (try rw [c9b0]); (try rw [c9b0] at H'); (try rw [c9b1]); (try rw [c9b1] at H'); (try rw [c17b0]); (try rw [c17b0] at H'); (try rw [c17b1]); (try rw [c17b1] at H'); (try rw [c20b0]); (try rw [c20b0] at H'); (try rw [c26b0]); (try rw [c26b0] at H'); (try rw [c26b1]); (try rw [c26b1] at H'); exact ⟨_, (false), (by first | rfl | (simp; done) | (simp [*]; done)), H', ⟨by have := HJ7.out; have := HJ14.out; first | omega | exact Nat.le_refl _⟩, ⟨by repeat (first | (with_reducible first | exact HB.out | apply below_alloc | apply pw_below_drewN | apply below_drew1) | exact HB.out)⟩⟩
                case rest =>
                  clear HC24
                  try clear c1
                  try clear c2
                  try clear p2
                  try clear c5
                  try clear c6
                  try clear p6
                  try clear c7
                  try clear c8
                  try clear c9
                  try clear c9b0
                  try clear c9b1
                  try clear c16
                  try clear c17
                  try clear c17b0
                  try clear c17b1
                  try clear c18
                  try clear c18b0
                  try clear c20
                  try clear c20b0
                  try clear c20b1
                  try clear c20b2
                  try clear c22
                  try clear c22b0
                  try clear c22b1
                  try clear c25
                  try clear c25b0
                  try clear c26
                  try clear c26b0
                  try clear c26b1
                  try clear p2
                  obtain ⟨kq, x101_23, rfl, HA, HJ23, HB⟩ := hcut
                  cases kq with
                  | zero => exact absurd HA.out (by simp [spec_l06Divide.j2])
                  | succ kj23 =>
                    have H := HA.out
                    clear HA
                    simp only [spec_l06Divide.j2] at H
                    by_cases c27 : x101_23 = true
                    · subst c27
                      have H1 : (some (0, 0, false)) = some (r1, r2, r3) := by rw [if_pos rfl] at H; exact H
                      clear H
                      have H := H1
                      clear H1
                      simp only [Option.some.injEq, Prod.mk.injEq] at H
                      obtain ⟨rfl, rfl, rfl⟩ := H
                      go_wp2
                      go_ret3
                      exact ⟨by first | rfl | (simp [errW_none, errW_some] <;> rfl) | (simp only [← hji21, ← hji23]; first | rfl | (simp [errW_none, errW_some] <;> rfl)) | (simp [*, errW_none, errW_some] <;> rfl), by repeat (first | (with_reducible first | exact HB.out | apply below_alloc | apply pw_below_drewN | apply below_drew1) | exact HB.out)⟩
                    · replace c27 := Bool.eq_false_iff.mpr c27
                      subst c27
                      have H1 : (if x18_7 = true then (spec_l06Divide.j3 kj23 a1 x17_7 (IntKind.u64.wrap (-t112)) t113) else (spec_l06Divide.j3 kj23 a1 x17_7 t112 t113)) = some (r1, r2, r3) := by rw [if_neg (show ¬ (false = true) by decide)] at H; exact H
                      clear H
                      have H := H1
                      clear H1
                      have HC28 := Aside0.mk H
                      clear H
                      go_upto_if 102 with (fail)
                      go_cut [19] (fun v19 wc => ∃ (kq : Nat) (x19_27 : Int), v19 = .int .u64 x19_27 ∧ Aside0 (spec_l06Divide.j3 kq a1 x17_7 x19_27 t113 = some (r1, r2, r3)) ∧ Aside0 (kq ≤ kj23) ∧ Aside0 (Below w.heap.size w wc))
                      case first =>
                        have H := HC28.out
                        clear HC28
                        by_cases c29 : x18_7 = true
                        · subst c29
                          have H1 : (spec_l06Divide.j3 kj23 a1 x17_7 (IntKind.u64.wrap (-t112)) t113) = some (r1, r2, r3) := by rw [if_pos rfl] at H; exact H
                          clear H
                          have H := H1
                          clear H1
                          have H' := Aside0.mk H
                          clear H
                          go_wp2
                          (first | go_meet | ((try simp only [c9b0] at *); (try simp only [c9b1] at *); (try simp only [c17b0] at *); (try simp only [c17b1] at *); (try simp only [c20b0] at *); (try simp only [c26b0] at *); (try simp only [c26b1] at *); go_meet))
                          case rel => (try rw [c9b0]); (try rw [c9b0] at H'); (try rw [c9b1]); (try rw [c9b1] at H'); (try rw [c17b0]); (try rw [c17b0] at H'); (try rw [c17b1]); (try rw [c17b1] at H'); (try rw [c20b0]); (try rw [c20b0] at H'); (try rw [c26b0]); (try rw [c26b0] at H'); (try rw [c26b1]); (try rw [c26b1] at H'); exact ⟨_, (IntKind.u64.wrap (-t112)), (by first | rfl | (simp; done) | (simp [*]; done)), H', ⟨by have := HJ7.out; have := HJ14.out; have := HJ23.out; first | omega | exact Nat.le_refl _⟩, ⟨by repeat (first | (with_reducible first | exact HB.out | apply below_alloc | apply pw_below_drewN | apply below_drew1) | exact HB.out)⟩⟩
                        · replace c29 := Bool.eq_false_iff.mpr c29
                          subst c29
                          have H1 : (spec_l06Divide.j3 kj23 a1 x17_7 t112 t113) = some (r1, r2, r3) := by rw [if_neg (show ¬ (false = true) by decide)] at H; exact H
                          clear H
                          have H := H1
                          clear H1
                          have H' := Aside0.mk H
                          clear H
                          go_wp2
                          (first | go_meet | ((try simp only [c9b0] at *); (try simp only [c9b1] at *); (try simp only [c17b0] at *); (try simp only [c17b1] at *); (try simp only [c20b0] at *); (try simp only [c26b0] at *); (try simp only [c26b1] at *); go_meet))
                          case rel => (try rw [c9b0]); (try rw [c9b0] at H'); (try rw [c9b1]); (try rw [c9b1] at H'); (try rw [c17b0]); (try rw [c17b0] at H'); (try rw [c17b1]); (try rw [c17b1] at H'); (try rw [c20b0]); (try rw [c20b0] at H'); (try rw [c26b0]); (try rw [c26b0] at H'); (try rw [c26b1]); (try rw [c26b1] at H'); exact ⟨_, (t112), (by first | rfl | (simp; done) | (simp [*]; done)), H', ⟨by have := HJ7.out; have := HJ14.out; have := HJ23.out; first | omega | exact Nat.le_refl _⟩, ⟨by repeat (first | (with_reducible first | exact HB.out | apply below_alloc | apply pw_below_drewN | apply below_drew1) | exact HB.out)⟩⟩
                      case rest =>
                        clear HC28
                        try clear c1
                        try clear c2
                        try clear p2
                        try clear c5
                        try clear c6
                        try clear p6
                        try clear c7
                        try clear c8
                        try clear c9
                        try clear c9b0
                        try clear c9b1
                        try clear c16
                        try clear c17
                        try clear c17b0
                        try clear c17b1
                        try clear c18
                        try clear c18b0
                        try clear c20
                        try clear c20b0
                        try clear c20b1
                        try clear c20b2
                        try clear c22
                        try clear c22b0
                        try clear c22b1
                        try clear c25
                        try clear c25b0
                        try clear c26
                        try clear c26b0
                        try clear c26b1
                        try clear c27
                        try clear c29
                        try clear p2
                        try clear p6
                        obtain ⟨kq, x19_27, rfl, HA, HJ27, HB⟩ := hcut
                        cases kq with
                        | zero => exact absurd HA.out (by simp [spec_l06Divide.j3])
                        | succ kj27 =>
                          have H := HA.out
                          clear HA
                          simp only [spec_l06Divide.j3] at H
                          by_cases c30 : x17_7 = true
                          · subst c30
                            have H1 : ((spec_l01Zero.f kj27 (wrap64 (x19_27)) a1).bind fun t114 => ((spec_l01Zero.f kj27 (wrap64 (IntKind.u64.wrap (-t113))) a1).bind fun t115 => (some (t114, t115, true)))) = some (r1, r2, r3) := by rw [if_pos rfl] at H; exact H
                            clear H
                            have H := H1
                            clear H1
                            replace H := Option.bind_eq_some_iff.mp H
                            obtain ⟨t114, A310, H⟩ := H
                            replace H : ((spec_l01Zero.f kj27 (wrap64 (IntKind.u64.wrap (-t113))) a1).bind fun t115 => (some (t114, t115, true))) = some (r1, r2, r3) := H
                            have A31 := Aside0.mk A310
                            clear A310
                            replace H := Option.bind_eq_some_iff.mp H
                            obtain ⟨t115, A320, H⟩ := H
                            replace H : (some (t114, t115, true)) = some (r1, r2, r3) := H
                            have A32 := Aside0.mk A320
                            clear A320
                            simp only [Option.some.injEq, Prod.mk.injEq] at H
                            obtain ⟨rfl, rfl, rfl⟩ := H
                            go_wp2_with (first | ((with_reducible refine gate_callee (f := 61) rfl ?_); refine goesL_ (some 111) rfl rfl Try.func61 (by kernel_rfl) rfl #[.int .i64 (wrap64 (x19_27)), .int .i64 a1] rfl (by (try simp only [List.map_toArray, List.map_cons, List.map_nil]); first | done | rfl | (simp only [List.length_drop, List.length_take]; rfl)) ?_; (with_reducible refine (spec_l01Zero.calls kj27 (wrap64 (x19_27)) a1 t114 _ A31.out).mono ?_); rintro e w' ⟨rfl, ⟨nd, rfl⟩⟩; refine ⟨_, rfl, ?_⟩) | ((with_reducible refine gate_callee (f := 61) rfl ?_); refine goesL_ (some 115) rfl rfl Try.func61 (by kernel_rfl) rfl #[.int .i64 (wrap64 (IntKind.u64.wrap (-t113))), .int .i64 a1] rfl (by (try simp only [List.map_toArray, List.map_cons, List.map_nil]); first | done | rfl | (simp only [List.length_drop, List.length_take]; rfl)) ?_; (with_reducible refine (spec_l01Zero.calls kj27 (wrap64 (IntKind.u64.wrap (-t113))) a1 t115 _ A32.out).mono ?_); rintro e w' ⟨rfl, ⟨nd, rfl⟩⟩; refine ⟨_, rfl, ?_⟩))
                            go_ret3
                            exact ⟨by first | rfl | (simp [errW_none, errW_some] <;> rfl) | (simp only [← hji21, ← hji23]; first | rfl | (simp [errW_none, errW_some] <;> rfl)) | (simp [*, errW_none, errW_some] <;> rfl), by repeat (first | (with_reducible first | exact HB.out | apply below_alloc | apply pw_below_drewN | apply below_drew1) | exact HB.out)⟩
                          · replace c30 := Bool.eq_false_iff.mpr c30
                            subst c30
                            have H1 : ((spec_l01Zero.f kj27 (wrap64 (x19_27)) a1).bind fun t116 => ((spec_l01Zero.f kj27 (wrap64 (t113)) a1).bind fun t117 => (some (t116, t117, true)))) = some (r1, r2, r3) := by rw [if_neg (show ¬ (false = true) by decide)] at H; exact H
                            clear H
                            have H := H1
                            clear H1
                            replace H := Option.bind_eq_some_iff.mp H
                            obtain ⟨t116, A330, H⟩ := H
                            replace H : ((spec_l01Zero.f kj27 (wrap64 (t113)) a1).bind fun t117 => (some (t116, t117, true))) = some (r1, r2, r3) := H
                            have A33 := Aside0.mk A330
                            clear A330
                            replace H := Option.bind_eq_some_iff.mp H
                            obtain ⟨t117, A340, H⟩ := H
                            replace H : (some (t116, t117, true)) = some (r1, r2, r3) := H
                            have A34 := Aside0.mk A340
                            clear A340
                            simp only [Option.some.injEq, Prod.mk.injEq] at H
                            obtain ⟨rfl, rfl, rfl⟩ := H
                            go_wp2_with (first | ((with_reducible refine gate_callee (f := 61) rfl ?_); refine goesL_ (some 111) rfl rfl Try.func61 (by kernel_rfl) rfl #[.int .i64 (wrap64 (x19_27)), .int .i64 a1] rfl (by (try simp only [List.map_toArray, List.map_cons, List.map_nil]); first | done | rfl | (simp only [List.length_drop, List.length_take]; rfl)) ?_; (with_reducible refine (spec_l01Zero.calls kj27 (wrap64 (x19_27)) a1 t116 _ A33.out).mono ?_); rintro e w' ⟨rfl, ⟨nd, rfl⟩⟩; refine ⟨_, rfl, ?_⟩) | ((with_reducible refine gate_callee (f := 61) rfl ?_); refine goesL_ (some 115) rfl rfl Try.func61 (by kernel_rfl) rfl #[.int .i64 (wrap64 (t113)), .int .i64 a1] rfl (by (try simp only [List.map_toArray, List.map_cons, List.map_nil]); first | done | rfl | (simp only [List.length_drop, List.length_take]; rfl)) ?_; (with_reducible refine (spec_l01Zero.calls kj27 (wrap64 (t113)) a1 t117 _ A34.out).mono ?_); rintro e w' ⟨rfl, ⟨nd, rfl⟩⟩; refine ⟨_, rfl, ?_⟩))
                            go_ret3
                            exact ⟨by first | rfl | (simp [errW_none, errW_some] <;> rfl) | (simp only [← hji21, ← hji23]; first | rfl | (simp [errW_none, errW_some] <;> rfl)) | (simp [*, errW_none, errW_some] <;> rfl), by repeat (first | (with_reducible first | exact HB.out | apply below_alloc | apply pw_below_drewN | apply below_drew1) | exact HB.out)⟩
              · rw [if_neg c22] at H
                exact absurd H (by simp)
            · rw [if_neg c20] at H
              have c20b0 : (a0 == 16) = false := by simpa using c20
              (try (have c20b1 : decide (a0 = 16) = false := by simpa using c20))
              (try (have c20b2 : (a0 == 16) = false := by simpa using c20))
              (try (have c20b3 : ¬ (a0 = 16) := by simpa using c20))
              clear c20
              by_cases c35 : a1 = 8
              · rw [if_pos c35] at H
                have c35b0 : (a1 == 8) = true := beq_iff_eq.mpr c35
                have c35b1 : (a1 != 8) = false := bne_eq_false_iff_eq.mpr c35
                clear c35
                simp only [Option.some.injEq, Prod.mk.injEq] at H
                obtain ⟨rfl, rfl, rfl⟩ := H
                go_wp2_with (first | ((with_reducible refine gate_callee (f := 87) rfl ?_); refine goesL_ (some 66) rfl rfl Try.func87 (by kernel_rfl) rfl #[.int .u64 x14_14, .int .u64 x15_14, .int .u64 x16_7] rfl (by (try simp only [List.map_toArray, List.map_cons, List.map_nil]); first | done | rfl | (simp only [List.length_drop, List.length_take]; rfl)) ?_; (with_reducible refine (spec_l01Divide.calls kj14 x14_14 x15_14 x16_7 t112 t113 _ A19.out).mono ?_); rintro e w' ⟨rfl, ⟨nd, rfl⟩⟩; refine ⟨_, rfl, ?_⟩))
                go_ret3
                exact ⟨by first | rfl | (simp [errW_none, errW_some] <;> rfl) | (simp [*, errW_none, errW_some] <;> rfl), by repeat (first | (with_reducible first | exact HB.out | apply below_alloc | apply pw_below_drewN | apply below_drew1) | exact HB.out)⟩
              · rw [if_neg c35] at H
                have c35b0 : (a1 == 8) = false := beq_eq_false_iff_ne.mpr c35
                have c35b1 : (a1 != 8) = true := bne_iff_ne.mpr c35
                obtain ⟨ji36, hji36⟩ : ∃ j_ : Int, (IntKind.u64.wrap (wrap64 (8 * a1))) = j_ := ⟨_, rfl⟩
                replace H : (if 0 ≤ (ji36) then (some (wrap64 (t112), wrap64 (t113), ((shr .u64 t112 (ji36)) == 0))) else (none)) = some (r1, r2, r3) := by first | (rw [hji36] at H; exact H) | (simp only [hji36] at H ⊢; exact H)
                (try rw [hji36] at A19)
                by_cases c37 : 0 ≤ (ji36)
                · rw [if_pos c37] at H
                  have c37b0 := eq_true c37
                  have c37b1 : decide (0 ≤ (ji36)) = true := decide_eq_true c37
                  clear c37
                  obtain ⟨ji38, hji38⟩ : ∃ j_ : Int, (shr .u64 t112 (ji36)) = j_ := ⟨_, rfl⟩
                  replace H : (some (wrap64 (t112), wrap64 (t113), ((ji38) == 0))) = some (r1, r2, r3) := by first | (rw [hji38] at H; exact H) | (simp only [hji38] at H ⊢; exact H)
                  (try rw [hji38] at A19)
                  have hji38_ : (t112 / 2 ^ min (ji36).toNat 64) = ji38 := hji38
                  have hji38z : (ji36) ≤ 64 → (t112 / 2 ^ (ji36).toNat) = ji38 := shr_small hji38
                  simp only [Option.some.injEq, Prod.mk.injEq] at H
                  obtain ⟨rfl, rfl, rfl⟩ := H
                  go_wp2_with (first | ((with_reducible refine gate_callee (f := 87) rfl ?_); refine goesL_ (some 66) rfl rfl Try.func87 (by kernel_rfl) rfl #[.int .u64 x14_14, .int .u64 x15_14, .int .u64 x16_7] rfl (by (try simp only [List.map_toArray, List.map_cons, List.map_nil]); first | done | rfl | (simp only [List.length_drop, List.length_take]; rfl)) ?_; (with_reducible refine (spec_l01Divide.calls kj14 x14_14 x15_14 x16_7 t112 t113 _ A19.out).mono ?_); rintro e w' ⟨rfl, ⟨nd, rfl⟩⟩; refine ⟨_, rfl, ?_⟩))
                  go_ret3
                  exact ⟨by first | rfl | (simp [errW_none, errW_some] <;> rfl) | (simp only [← hji36, ← hji38]; first | rfl | (simp [errW_none, errW_some] <;> rfl)) | (simp [*, errW_none, errW_some] <;> rfl), by repeat (first | (with_reducible first | exact HB.out | apply below_alloc | apply pw_below_drewN | apply below_drew1) | exact HB.out)⟩
                · rw [if_neg c37] at H
                  exact absurd H (by simp)

/-! ### spec_Divide: function 19 -/
def spec_Divide.j0 : Nat → Int → Int → Int → Int → Int → Bool → Option (Int × Int × Int)
  | 0, _, _, _, _, _, _ => none
  | k + 1, x0, x1, x2, x3, x4, x24 => if x24 = true then (some (0, 0, 11)) else ((spec_l06Divide.f k x0 x1 x2 x3 x4).bind fun bt119 => (if bt119.2.2 = true then (some (bt119.1, bt119.2.1, 0)) else (some (0, 0, 16))))
def spec_Divide.f (k : Nat) (a0 : Int) (a1 : Int) (a2 : Int) (a3 : Int) (a4 : Int) : Option (Int × Int × Int) := (spec_l01Size.f a1).bind fun t118 => (if t118 = true then (if a0 = 15 then (spec_Divide.j0 k a0 a1 a2 a3 a4 false) else (spec_Divide.j0 k a0 a1 a2 a3 a4 (a0 != 16))) else (some (0, 0, 4)))
theorem spec_Divide.mono_l : ∀ k, (∀ y0 y1 y2 y3 y4 y5, LeO (spec_Divide.j0 k y0 y1 y2 y3 y4 y5) (spec_Divide.j0 (k + 1) y0 y1 y2 y3 y4 y5))
  | 0 => fun _ _ _ _ _ _ r h => by simp [spec_Divide.j0] at h
  | k + 1 => by
    have ih0 := spec_Divide.mono_l k
    · intro y0 y1 y2 y3 y4 y5
      unfold spec_Divide.j0
      repeat' first
      | (with_reducible exact ih0 _ _ _ _ _ _)
      | (with_reducible exact spec_l06Divide.mono _ _ _ _ _ _)
      | (with_reducible exact LeO.refl _)
      | (with_reducible exact LeO.none _)
      | (with_reducible refine LeO.ite ?_ ?_)
      | (with_reducible refine LeO.bind ?_ (fun _ => ?_))
      | exact ih0 _ _ _ _ _ _
      | exact spec_l06Divide.mono _ _ _ _ _ _
      | exact LeO.none _
      | refine LeO.ite ?_ ?_
      | refine LeO.bind ?_ (fun _ => ?_)
theorem spec_Divide.mono : ∀ a0 a1 a2 a3 a4 k, LeO (spec_Divide.f k a0 a1 a2 a3 a4) (spec_Divide.f (k + 1) a0 a1 a2 a3 a4) := by
  intro a0 a1 a2 a3 a4 k
  have ih0 := spec_Divide.mono_l k
  unfold spec_Divide.f
  repeat' first
      | (with_reducible exact ih0 _ _ _ _ _ _)
      | (with_reducible exact spec_l06Divide.mono _ _ _ _ _ _)
      | (with_reducible exact LeO.refl _)
      | (with_reducible exact LeO.none _)
      | (with_reducible refine LeO.ite ?_ ?_)
      | (with_reducible refine LeO.bind ?_ (fun _ => ?_))
      | exact ih0 _ _ _ _ _ _
      | exact spec_l06Divide.mono _ _ _ _ _ _
      | exact LeO.none _
      | refine LeO.ite ?_ ?_
      | refine LeO.bind ?_ (fun _ => ?_)
set_option maxHeartbeats 8000000 in
set_option maxRecDepth 100000 in
theorem spec_Divide.calls (k : Nat) (a0 : Int) (a1 : Int) (a2 : Int) (a3 : Int) (a4 : Int) (r1 : Int) (r2 : Int) (r3 : Int) (w : World) (h : spec_Divide.f k a0 a1 a2 a3 a4 = some (r1, r2, r3)) :
    Calls Try.prog 19 #[.int .i64 a0, .int .i64 a1, .int .i64 a2, .int .i64 a3, .int .i64 a4] w fun e w' => e = .returned (.tuple #[.int .i64 r1, .int .i64 r2, .int .i64 r3]) ∧ Below w.heap.size w w' := by
  have HB := Aside0.mk (Below.refl w.heap.size w)
  have H : ((spec_l01Size.f a1).bind fun t118 => (if t118 = true then (if a0 = 15 then (spec_Divide.j0 k a0 a1 a2 a3 a4 false) else (spec_Divide.j0 k a0 a1 a2 a3 a4 (a0 != 16))) else (some (0, 0, 4)))) = some (r1, r2, r3) := h
  clear h
  replace H := Option.bind_eq_some_iff.mp H
  obtain ⟨t118, A60, H⟩ := H
  replace H : (if t118 = true then (if a0 = 15 then (spec_Divide.j0 k a0 a1 a2 a3 a4 false) else (spec_Divide.j0 k a0 a1 a2 a3 a4 (a0 != 16))) else (some (0, 0, 4))) = some (r1, r2, r3) := H
  have A6 := Aside0.mk A60
  clear A60
  by_cases c7 : t118 = true
  · subst c7
    have H1 : (if a0 = 15 then (spec_Divide.j0 k a0 a1 a2 a3 a4 false) else (spec_Divide.j0 k a0 a1 a2 a3 a4 (a0 != 16))) = some (r1, r2, r3) := by rw [if_pos rfl] at H; exact H
    clear H
    have H := H1
    clear H1
    have HC8 := Aside0.mk H
    clear H
    go_enter Try.func19, Try.ntmps19
    go_upto_region 3 with (first | ((with_reducible refine gate_callee (f := 39) rfl ?_); refine goesL_ (some 17) rfl rfl Try.func39 (by kernel_rfl) rfl #[.int .i64 a1] rfl (by (try simp only [List.map_toArray, List.map_cons, List.map_nil]); first | done | rfl | (simp only [List.length_drop, List.length_take]; rfl)) ?_; (with_reducible refine (spec_l01Size.calls a1 true _ A6.out).mono ?_); rintro e w' ⟨rfl, ⟨nd, rfl⟩⟩; refine ⟨_, rfl, ?_⟩))
    (try simp only [Act.put, List.setIfInBounds_toArray, List.set_cons_zero, List.set_cons_succ])
    go_cut [24] (fun v24 wc => ∃ (kq : Nat) (x24_7 : Bool), v24 = .bool x24_7 ∧ Aside0 (spec_Divide.j0 kq a0 a1 a2 a3 a4 x24_7 = some (r1, r2, r3)) ∧ Aside0 (kq ≤ k) ∧ Aside0 (Below w.heap.size w wc))
    case first =>
      have H := HC8.out
      clear HC8
      by_cases c9 : a0 = 15
      · rw [if_pos c9] at H
        have c9b0 : (a0 == 15) = true := beq_iff_eq.mpr c9
        have c9b1 : (a0 != 15) = false := bne_eq_false_iff_eq.mpr c9
        clear c9
        (first | rw [c9b0] | (simp only [i64_w, i32_w]; rw [c9b0]) | skip)
        have H' := Aside0.mk H
        clear H
        go_wp2
        (first | go_meet | ((try simp only [c9b0] at *); (try simp only [c9b1] at *); go_meet))
        case rel => (try rw [c9b0]); (try rw [c9b0] at H'); (try rw [c9b1]); (try rw [c9b1] at H'); exact ⟨_, (false), (by first | rfl | (simp; done) | (simp [*]; done)), H', ⟨by first | omega | exact Nat.le_refl _⟩, ⟨by repeat (first | (with_reducible first | exact HB.out | apply below_alloc | apply pw_below_drewN | apply below_drew1) | exact HB.out)⟩⟩
      · rw [if_neg c9] at H
        have c9b0 : (a0 == 15) = false := beq_eq_false_iff_ne.mpr c9
        have c9b1 : (a0 != 15) = true := bne_iff_ne.mpr c9
        (first | rw [c9b0] | (simp only [i64_w, i32_w]; rw [c9b0]) | skip)
        have H' := Aside0.mk H
        clear H
        go_wp2
        (first | go_meet | ((try simp only [c9b0] at *); (try simp only [c9b1] at *); go_meet))
        case rel => (try rw [c9b0]); (try rw [c9b0] at H'); (try rw [c9b1]); (try rw [c9b1] at H'); exact ⟨_, ((a0 != 16)), (by first | rfl | (simp; done) | (simp [*]; done)), H', ⟨by first | omega | exact Nat.le_refl _⟩, ⟨by repeat (first | (with_reducible first | exact HB.out | apply below_alloc | apply pw_below_drewN | apply below_drew1) | exact HB.out)⟩⟩
    case rest =>
      clear HC8
      try clear c1
      try clear p2
      try clear c3
      try clear c7
      try clear c9
      try clear c9b0
      try clear c9b1
      obtain ⟨kq, x24_7, rfl, HA, HJ7, HB⟩ := hcut
      cases kq with
      | zero => exact absurd HA.out (by simp [spec_Divide.j0])
      | succ kj7 =>
        have H := HA.out
        clear HA
        simp only [spec_Divide.j0] at H
        by_cases c10 : x24_7 = true
        · subst c10
          have H1 : (some (0, 0, 11)) = some (r1, r2, r3) := by rw [if_pos rfl] at H; exact H
          clear H
          have H := H1
          clear H1
          simp only [Option.some.injEq, Prod.mk.injEq] at H
          obtain ⟨rfl, rfl, rfl⟩ := H
          go_wp2
          go_ret3
          exact ⟨by first | rfl | (simp [errW_none, errW_some] <;> rfl) | (simp [*, errW_none, errW_some] <;> rfl), by repeat (first | (with_reducible first | exact HB.out | apply below_alloc | apply pw_below_drewN | apply below_drew1) | exact HB.out)⟩
        · replace c10 := Bool.eq_false_iff.mpr c10
          subst c10
          have H1 : ((spec_l06Divide.f kj7 a0 a1 a2 a3 a4).bind fun bt119 => (if bt119.2.2 = true then (some (bt119.1, bt119.2.1, 0)) else (some (0, 0, 16)))) = some (r1, r2, r3) := by rw [if_neg (show ¬ (false = true) by decide)] at H; exact H
          clear H
          have H := H1
          clear H1
          replace H := Option.bind_eq_some_iff.mp H
          obtain ⟨⟨t119, t120, t121⟩, A110, H⟩ := H
          replace H : (if t121 = true then (some (t119, t120, 0)) else (some (0, 0, 16))) = some (r1, r2, r3) := H
          have A11 := Aside0.mk A110
          clear A110
          by_cases c12 : t121 = true
          · subst c12
            have H1 : (some (t119, t120, 0)) = some (r1, r2, r3) := by rw [if_pos rfl] at H; exact H
            clear H
            have H := H1
            clear H1
            simp only [Option.some.injEq, Prod.mk.injEq] at H
            obtain ⟨rfl, rfl, rfl⟩ := H
            go_wp2_with (first | ((with_reducible refine gate_callee (f := 55) rfl ?_); refine goesL_ (some 31) rfl rfl Try.func55 (by kernel_rfl) rfl #[.int .i64 a0, .int .i64 a1, .int .i64 a2, .int .i64 a3, .int .i64 a4] rfl (by (try simp only [List.map_toArray, List.map_cons, List.map_nil]); first | done | rfl | (simp only [List.length_drop, List.length_take]; rfl)) ?_; (with_reducible refine (spec_l06Divide.calls kj7 a0 a1 a2 a3 a4 t119 t120 true _ A11.out).mono ?_); rintro e w13 ⟨rfl, hb⟩; refine ⟨_, rfl, ?_⟩; have n0_ := Aside0.mk (below_step (by repeat (first | (with_reducible first | exact HB.out | apply below_alloc | apply pw_below_drewN | apply below_drew1) | exact HB.out)) hb); clear HB; have HB := n0_; clear n0_; (try clear hb); (try clear hb2); (try clear hk); (try clear hi)))
            go_ret3
            exact ⟨by first | rfl | (simp [errW_none, errW_some] <;> rfl) | (simp [*, errW_none, errW_some] <;> rfl), by repeat (first | (with_reducible first | exact HB.out | apply below_alloc | apply pw_below_drewN | apply below_drew1) | exact HB.out)⟩
          · replace c12 := Bool.eq_false_iff.mpr c12
            subst c12
            have H1 : (some (0, 0, 16)) = some (r1, r2, r3) := by rw [if_neg (show ¬ (false = true) by decide)] at H; exact H
            clear H
            have H := H1
            clear H1
            simp only [Option.some.injEq, Prod.mk.injEq] at H
            obtain ⟨rfl, rfl, rfl⟩ := H
            go_wp2_with (first | ((with_reducible refine gate_callee (f := 55) rfl ?_); refine goesL_ (some 31) rfl rfl Try.func55 (by kernel_rfl) rfl #[.int .i64 a0, .int .i64 a1, .int .i64 a2, .int .i64 a3, .int .i64 a4] rfl (by (try simp only [List.map_toArray, List.map_cons, List.map_nil]); first | done | rfl | (simp only [List.length_drop, List.length_take]; rfl)) ?_; (with_reducible refine (spec_l06Divide.calls kj7 a0 a1 a2 a3 a4 t119 t120 false _ A11.out).mono ?_); rintro e w14 ⟨rfl, hb⟩; refine ⟨_, rfl, ?_⟩; have n0_ := Aside0.mk (below_step (by repeat (first | (with_reducible first | exact HB.out | apply below_alloc | apply pw_below_drewN | apply below_drew1) | exact HB.out)) hb); clear HB; have HB := n0_; clear n0_; (try clear hb); (try clear hb2); (try clear hk); (try clear hi)))
            go_ret3
            exact ⟨by first | rfl | (simp [errW_none, errW_some] <;> rfl) | (simp [*, errW_none, errW_some] <;> rfl), by repeat (first | (with_reducible first | exact HB.out | apply below_alloc | apply pw_below_drewN | apply below_drew1) | exact HB.out)⟩
  · replace c7 := Bool.eq_false_iff.mpr c7
    subst c7
    have H1 : (some (0, 0, 4)) = some (r1, r2, r3) := by rw [if_neg (show ¬ (false = true) by decide)] at H; exact H
    clear H
    have H := H1
    clear H1
    simp only [Option.some.injEq, Prod.mk.injEq] at H
    obtain ⟨rfl, rfl, rfl⟩ := H
    go_enter Try.func19, Try.ntmps19
    go_wp2_with (first | ((with_reducible refine gate_callee (f := 39) rfl ?_); refine goesL_ (some 17) rfl rfl Try.func39 (by kernel_rfl) rfl #[.int .i64 a1] rfl (by (try simp only [List.map_toArray, List.map_cons, List.map_nil]); first | done | rfl | (simp only [List.length_drop, List.length_take]; rfl)) ?_; (with_reducible refine (spec_l01Size.calls a1 false _ A6.out).mono ?_); rintro e w' ⟨rfl, ⟨nd, rfl⟩⟩; refine ⟨_, rfl, ?_⟩))
    go_ret3
    exact ⟨by first | rfl | (simp [errW_none, errW_some] <;> rfl) | (simp [*, errW_none, errW_some] <;> rfl), by repeat (first | (with_reducible first | exact HB.out | apply below_alloc | apply pw_below_drewN | apply below_drew1) | exact HB.out)⟩

/-! ### impl_isSize: function 56 -/
def impl_isSize.f (a0 : Int) : Option (Bool) := if a0 = 1 then (some true) else (if a0 = 2 then (some true) else (if a0 = 4 then (some true) else (some (a0 == 8))))
set_option maxHeartbeats 8000000 in
set_option maxRecDepth 100000 in
theorem impl_isSize.calls (a0 : Int) (r : Bool) (w : World) (h : impl_isSize.f a0 = some r) :
    Calls Try.prog 56 #[.int .i64 a0] w fun e w' => e = .returned (.bool r) ∧ Drawn0 w w' := by
  have H : (if a0 = 1 then (some true) else (if a0 = 2 then (some true) else (if a0 = 4 then (some true) else (some (a0 == 8))))) = some r := h
  clear h
  by_cases c2 : a0 = 1
  · rw [if_pos c2] at H
    have c2b0 : (a0 == 1) = true := beq_iff_eq.mpr c2
    have c2b1 : (a0 != 1) = false := bne_eq_false_iff_eq.mpr c2
    clear c2
    obtain rfl := Option.some.inj H
    go_enter Try.func56, Try.ntmps56
    go_wp2
    go_ret
    exact ⟨by first | rfl | (simp; done) | (simp [*]; done), by repeat (first | exact Drawn0.refl _ | apply Drawn0.step)⟩
  · rw [if_neg c2] at H
    have c2b0 : (a0 == 1) = false := beq_eq_false_iff_ne.mpr c2
    have c2b1 : (a0 != 1) = true := bne_iff_ne.mpr c2
    by_cases c3 : a0 = 2
    · rw [if_pos c3] at H
      have c3b0 : (a0 == 2) = true := beq_iff_eq.mpr c3
      have c3b1 : (a0 != 2) = false := bne_eq_false_iff_eq.mpr c3
      clear c3
      obtain rfl := Option.some.inj H
      go_enter Try.func56, Try.ntmps56
      go_wp2
      go_ret
      exact ⟨by first | rfl | (simp; done) | (simp [*]; done), by repeat (first | exact Drawn0.refl _ | apply Drawn0.step)⟩
    · rw [if_neg c3] at H
      have c3b0 : (a0 == 2) = false := beq_eq_false_iff_ne.mpr c3
      have c3b1 : (a0 != 2) = true := bne_iff_ne.mpr c3
      by_cases c4 : a0 = 4
      · rw [if_pos c4] at H
        have c4b0 : (a0 == 4) = true := beq_iff_eq.mpr c4
        have c4b1 : (a0 != 4) = false := bne_eq_false_iff_eq.mpr c4
        clear c4
        obtain rfl := Option.some.inj H
        go_enter Try.func56, Try.ntmps56
        go_wp2
        go_ret
        exact ⟨by first | rfl | (simp; done) | (simp [*]; done), by repeat (first | exact Drawn0.refl _ | apply Drawn0.step)⟩
      · rw [if_neg c4] at H
        have c4b0 : (a0 == 4) = false := beq_eq_false_iff_ne.mpr c4
        have c4b1 : (a0 != 4) = true := bne_iff_ne.mpr c4
        obtain rfl := Option.some.inj H
        go_enter Try.func56, Try.ntmps56
        go_wp2
        go_ret
        exact ⟨by first | rfl | (simp; done) | (simp [*]; done), by repeat (first | exact Drawn0.refl _ | apply Drawn0.step)⟩

/-! ### impl_BelowU: function 30 -/
def impl_BelowU.f (a0 : Int) (a1 : Int) : Option (Bool) := some (decide ((IntKind.u64.wrap (a0)) < (IntKind.u64.wrap (a1))))
set_option maxHeartbeats 8000000 in
set_option maxRecDepth 100000 in
theorem impl_BelowU.calls (a0 : Int) (a1 : Int) (r : Bool) (w : World) (h : impl_BelowU.f a0 a1 = some r) :
    Calls Try.prog 30 #[.int .i64 a0, .int .i64 a1] w fun e w' => e = .returned (.bool r) ∧ Drawn0 w w' := by
  have H : (some (decide ((IntKind.u64.wrap (a0)) < (IntKind.u64.wrap (a1))))) = some r := h
  clear h
  obtain rfl := Option.some.inj H
  go_enter Try.func30, Try.ntmps30
  go_wp2
  go_ret
  exact ⟨by first | rfl | (simp; done) | (simp [*]; done), by repeat (first | exact Drawn0.refl _ | apply Drawn0.step)⟩

end Go.Proofs.Ytdljhgmgpnpfiaa.PFnExactDivide
