-- Written for this claim by the session's own program, out of the translation. Not trusted: Lean checks it.
import Derived.Test.YtdljhgmgpnpfiaaPFnBytesx0
import Derived.Test.YtdljhgmgpnpfiaaPFnBytesx1
import Derived.Test.YtdljhgmgpnpfiaaPFnBytesx2
namespace Go.Proofs.Ytdljhgmgpnpfiaa.PFnBytes
open Go.RowKit Go.Proofs.YtdljhgmgpnpfiaaW.PrintWords Go.Proofs.YtdljhgmgpnpfiaaW.PrintLast Go.Proofs.YtdljhgmgpnpfiaaW.PrintMore
attribute [local go_sem] max2_int min2_int max_two min_two max_three min_three max_four min_four   -- for this text's walks alone
set_option linter.unusedVariables false
set_option linter.unusedSimpArgs false

/-! ### impl_ZeroOf: function 37 -/
def impl_ZeroOf.f (a0 : Int) (a1 : Int) : Option (Int × Int) := (impl_isSize.f a1).bind fun t204 => (if t204 = true then ((impl_zero.f a0 a1).bind fun t205 => (some (t205, 0))) else (some (0, 4)))
set_option maxHeartbeats 8000000 in
set_option maxRecDepth 100000 in
theorem impl_ZeroOf.calls (a0 : Int) (a1 : Int) (r1 : Int) (r2 : Int) (w : World) (h : impl_ZeroOf.f a0 a1 = some (r1, r2)) :
    Calls Try.prog 37 #[.int .i64 a0, .int .i64 a1] w fun e w' => e = .returned (.tuple #[.int .i64 r1, .int .i64 r2]) ∧ Drawn0 w w' := by
  have H : ((impl_isSize.f a1).bind fun t204 => (if t204 = true then ((impl_zero.f a0 a1).bind fun t205 => (some (t205, 0))) else (some (0, 4)))) = some (r1, r2) := h
  clear h
  replace H := Option.bind_eq_some_iff.mp H
  obtain ⟨t204, A30, H⟩ := H
  replace H : (if t204 = true then ((impl_zero.f a0 a1).bind fun t205 => (some (t205, 0))) else (some (0, 4))) = some (r1, r2) := H
  have A3 := Aside0.mk A30
  clear A30
  by_cases c4 : t204 = true
  · subst c4
    have H1 : ((impl_zero.f a0 a1).bind fun t205 => (some (t205, 0))) = some (r1, r2) := by rw [if_pos rfl] at H; exact H
    clear H
    have H := H1
    clear H1
    replace H := Option.bind_eq_some_iff.mp H
    obtain ⟨t205, A50, H⟩ := H
    replace H : (some (t205, 0)) = some (r1, r2) := H
    have A5 := Aside0.mk A50
    clear A50
    simp only [Option.some.injEq, Prod.mk.injEq] at H
    obtain ⟨rfl, rfl⟩ := H
    go_enter Try.func37, Try.ntmps37
    go_wp2_with (first | ((with_reducible refine gate_callee (f := 56) rfl ?_); refine goesL_ (some 7) rfl rfl Try.func56 (by kernel_rfl) rfl #[.int .i64 a1] rfl (by (try simp only [List.map_toArray, List.map_cons, List.map_nil]); first | done | rfl | (simp only [List.length_drop, List.length_take]; rfl)) ?_; (with_reducible refine (impl_isSize.calls a1 true _ A3.out).mono ?_); rintro e w' ⟨rfl, ⟨nd, rfl⟩⟩; refine ⟨_, rfl, ?_⟩) | ((with_reducible refine gate_callee (f := 70) rfl ?_); refine goesL_ (some 11) rfl rfl Try.func70 (by kernel_rfl) rfl #[.int .i64 a0, .int .i64 a1] rfl (by (try simp only [List.map_toArray, List.map_cons, List.map_nil]); first | done | rfl | (simp only [List.length_drop, List.length_take]; rfl)) ?_; (with_reducible refine (impl_zero.calls a0 a1 t205 _ A5.out).mono ?_); rintro e w' ⟨rfl, ⟨nd, rfl⟩⟩; refine ⟨_, rfl, ?_⟩))
    go_ret2
    exact ⟨by first | rfl | (simp; done) | (simp [*]; done), by repeat (first | exact Drawn0.refl _ | apply Drawn0.step)⟩
  · replace c4 := Bool.eq_false_iff.mpr c4
    subst c4
    have H1 : (some (0, 4)) = some (r1, r2) := by rw [if_neg (show ¬ (false = true) by decide)] at H; exact H
    clear H
    have H := H1
    clear H1
    simp only [Option.some.injEq, Prod.mk.injEq] at H
    obtain ⟨rfl, rfl⟩ := H
    go_enter Try.func37, Try.ntmps37
    go_wp2_with (first | ((with_reducible refine gate_callee (f := 56) rfl ?_); refine goesL_ (some 7) rfl rfl Try.func56 (by kernel_rfl) rfl #[.int .i64 a1] rfl (by (try simp only [List.map_toArray, List.map_cons, List.map_nil]); first | done | rfl | (simp only [List.length_drop, List.length_take]; rfl)) ?_; (with_reducible refine (impl_isSize.calls a1 false _ A3.out).mono ?_); rintro e w' ⟨rfl, ⟨nd, rfl⟩⟩; refine ⟨_, rfl, ?_⟩))
    go_ret2
    exact ⟨by first | rfl | (simp; done) | (simp [*]; done), by repeat (first | exact Drawn0.refl _ | apply Drawn0.step)⟩

/-! ### spec_l01Sign: function 71 -/
def spec_l01Sign.l0 : Nat → Int → Int → Int → Int → Option (Int)
  | 0, _, _, _, _ => none
  | k + 1, x0, x1, x5, x6 => if x6 ≥ 0 then ((spec_l01Bit.f x0 (mn x6 (wrap64 ((wrap64 (8 * x1)) - 1)))).bind fun t206 => (spec_l01Sign.l0 k x0 x1 (IntKind.u64.wrap ((IntKind.u64.wrap (2 * x5)) + (IntKind.u64.wrap (t206)))) (wrap64 (x6 - 1)))) else (some (wrap64 (x5)))
def spec_l01Sign.f (k : Nat) (a0 : Int) (a1 : Int) : Option (Int) := spec_l01Sign.l0 k a0 a1 0 63
theorem spec_l01Sign.mono_l : ∀ k, (∀ y0 y1 y2 y3, LeO (spec_l01Sign.l0 k y0 y1 y2 y3) (spec_l01Sign.l0 (k + 1) y0 y1 y2 y3))
  | 0 => fun _ _ _ _ r h => by simp [spec_l01Sign.l0] at h
  | k + 1 => by
    have ih0 := spec_l01Sign.mono_l k
    · intro y0 y1 y2 y3
      unfold spec_l01Sign.l0
      repeat' first
      | (with_reducible exact ih0 _ _ _ _)
      | (with_reducible exact LeO.refl _)
      | (with_reducible exact LeO.none _)
      | (with_reducible refine LeO.ite ?_ ?_)
      | (with_reducible refine LeO.bind ?_ (fun _ => ?_))
      | exact ih0 _ _ _ _
      | exact LeO.none _
      | refine LeO.ite ?_ ?_
      | refine LeO.bind ?_ (fun _ => ?_)
theorem spec_l01Sign.mono : ∀ a0 a1 k, LeO (spec_l01Sign.f k a0 a1) (spec_l01Sign.f (k + 1) a0 a1) := by
  intro a0 a1 k
  have ih0 := spec_l01Sign.mono_l k
  unfold spec_l01Sign.f
  repeat' first
      | (with_reducible exact ih0 _ _ _ _)
      | (with_reducible exact LeO.refl _)
      | (with_reducible exact LeO.none _)
      | (with_reducible refine LeO.ite ?_ ?_)
      | (with_reducible refine LeO.bind ?_ (fun _ => ?_))
      | exact ih0 _ _ _ _
      | exact LeO.none _
      | refine LeO.ite ?_ ?_
      | refine LeO.bind ?_ (fun _ => ?_)
set_option maxHeartbeats 8000000 in
set_option maxRecDepth 100000 in
theorem spec_l01Sign.calls (k : Nat) (a0 : Int) (a1 : Int) (r : Int) (w : World) (h : spec_l01Sign.f k a0 a1 = some r) :
    Calls Try.prog 71 #[.int .i64 a0, .int .i64 a1] w fun e w' => e = .returned (.int .i64 r) ∧ Below w.heap.size w w' := by
  have HB := Aside0.mk (Below.refl w.heap.size w)
  have H : (spec_l01Sign.l0 k a0 a1 0 63) = some r := h
  clear h
  have H' := Aside0.mk H
  clear H
  go_enter Try.func71, Try.ntmps71
  go_wp2
  go_loopg [5, 6] k (fun kq v5 v6 w' => ∃ (x5_1 : Int) (x6_1 : Int), v5 = .int .u64 x5_1 ∧ v6 = .int .i64 x6_1 ∧ Aside0 (spec_l01Sign.l0 kq a0 a1 x5_1 x6_1 = some r) ∧ Aside0 (kq ≤ k) ∧ Aside0 (Below w.heap.size w w'))
  case atStart => exact ⟨(0), (63), (by first | rfl | (simp; done) | (simp [*]; done)), (by first | rfl | (simp; done) | (simp [*]; done)), H', ⟨Nat.le_refl _⟩, ⟨by repeat (first | (with_reducible first | exact HB.out | apply below_alloc | apply pw_below_drewN | apply below_drew1) | exact HB.out)⟩⟩
  case round =>
    clear H'
    try clear p2
    obtain ⟨x5_1, x6_1, rfl, rfl, HA, HK1, HB⟩ := hrel
    cases gk with
    | zero => exact absurd HA.out (by simp [spec_l01Sign.l0])
    | succ k1 =>
      have H := HA.out
      clear HA
      simp only [spec_l01Sign.l0] at H
      by_cases c3 : x6_1 ≥ 0
      · rw [if_pos c3] at H
        have c3b0 : decide (0 ≤ x6_1) = true := decide_eq_true c3
        clear c3
        obtain ⟨ji4, hji4⟩ : ∃ j_ : Int, (mn x6_1 (wrap64 ((wrap64 (8 * a1)) - 1))) = j_ := ⟨_, rfl⟩
        replace H : ((spec_l01Bit.f a0 (ji4)).bind fun t206 => (spec_l01Sign.l0 k1 a0 a1 (IntKind.u64.wrap ((IntKind.u64.wrap (2 * x5_1)) + (IntKind.u64.wrap (t206)))) (wrap64 (x6_1 - 1)))) = some r := by first | (rw [hji4] at H; exact H) | (simp only [hji4] at H ⊢; exact H)
        have hji4_ : (if (wrap64 ((wrap64 (8 * a1)) - 1)) < x6_1 then (wrap64 ((wrap64 (8 * a1)) - 1)) else x6_1) = ji4 := hji4
        replace H := Option.bind_eq_some_iff.mp H
        obtain ⟨t206, A50, H⟩ := H
        replace H : (spec_l01Sign.l0 k1 a0 a1 (IntKind.u64.wrap ((IntKind.u64.wrap (2 * x5_1)) + (IntKind.u64.wrap (t206)))) (wrap64 (x6_1 - 1))) = some r := H
        have A5 := Aside0.mk A50
        clear A50
        have H' := Aside0.mk H
        clear H
        go_wp2_with (first | ((with_reducible refine gate_callee (f := 94) rfl ?_); refine goesL_ (some 19) rfl rfl Try.func94 (by kernel_rfl) rfl #[.int .i64 a0, .int .i64 ji4] rfl (by (try simp only [List.map_toArray, List.map_cons, List.map_nil]); first | done | (simp only [hji4]; rfl) | rfl | (simp only [List.length_drop, List.length_take]; rfl)) ?_; (with_reducible refine (spec_l01Bit.calls a0 ji4 t206 _ A5.out).mono ?_); rintro e w' ⟨rfl, ⟨nd, rfl⟩⟩; refine ⟨_, rfl, ?_⟩))
        go_roundg k1
        case measure => have := HK1.out; omega
        case rel => exact ⟨(IntKind.u64.wrap ((IntKind.u64.wrap (2 * x5_1)) + (IntKind.u64.wrap (t206)))), (wrap64 (x6_1 - 1)), (by first | rfl | (simp; done) | (simp [*]; done)), (by first | rfl | (simp; done) | (simp [*]; done)), H', ⟨by have := HK1.out; omega⟩, ⟨by repeat (first | (with_reducible first | exact HB.out | apply below_alloc | apply pw_below_drewN | apply below_drew1) | exact HB.out)⟩⟩
      · rw [if_neg c3] at H
        have c3b0 : decide (0 ≤ x6_1) = false := decide_eq_false c3
        clear c3
        obtain rfl := Option.some.inj H
        go_wp2
        go_ret
        exact ⟨by first | rfl | (simp [errW_none, errW_some] <;> rfl) | (simp [*, errW_none, errW_some] <;> rfl), by repeat (first | (with_reducible first | exact HB.out | apply below_alloc | apply pw_below_drewN | apply below_drew1) | exact HB.out)⟩

/-! ### spec_SignOf: function 38 -/
def spec_SignOf.f (k : Nat) (a0 : Int) (a1 : Int) : Option (Int × Int) := (spec_l01Size.f a1).bind fun t207 => (if t207 = true then ((spec_l01Sign.f k a0 a1).bind fun t208 => (some (t208, 0))) else (some (0, 4)))
theorem spec_SignOf.mono : ∀ a0 a1 k, LeO (spec_SignOf.f k a0 a1) (spec_SignOf.f (k + 1) a0 a1) := by
  intro a0 a1 k
  unfold spec_SignOf.f
  repeat' first
      | (with_reducible exact spec_l01Sign.mono _ _ _)
      | (with_reducible exact LeO.refl _)
      | (with_reducible exact LeO.none _)
      | (with_reducible refine LeO.ite ?_ ?_)
      | (with_reducible refine LeO.bind ?_ (fun _ => ?_))
      | exact spec_l01Sign.mono _ _ _
      | exact LeO.none _
      | refine LeO.ite ?_ ?_
      | refine LeO.bind ?_ (fun _ => ?_)
set_option maxHeartbeats 8000000 in
set_option maxRecDepth 100000 in
theorem spec_SignOf.calls (k : Nat) (a0 : Int) (a1 : Int) (r1 : Int) (r2 : Int) (w : World) (h : spec_SignOf.f k a0 a1 = some (r1, r2)) :
    Calls Try.prog 38 #[.int .i64 a0, .int .i64 a1] w fun e w' => e = .returned (.tuple #[.int .i64 r1, .int .i64 r2]) ∧ Below w.heap.size w w' := by
  have HB := Aside0.mk (Below.refl w.heap.size w)
  have H : ((spec_l01Size.f a1).bind fun t207 => (if t207 = true then ((spec_l01Sign.f k a0 a1).bind fun t208 => (some (t208, 0))) else (some (0, 4)))) = some (r1, r2) := h
  clear h
  replace H := Option.bind_eq_some_iff.mp H
  obtain ⟨t207, A30, H⟩ := H
  replace H : (if t207 = true then ((spec_l01Sign.f k a0 a1).bind fun t208 => (some (t208, 0))) else (some (0, 4))) = some (r1, r2) := H
  have A3 := Aside0.mk A30
  clear A30
  by_cases c4 : t207 = true
  · subst c4
    have H1 : ((spec_l01Sign.f k a0 a1).bind fun t208 => (some (t208, 0))) = some (r1, r2) := by rw [if_pos rfl] at H; exact H
    clear H
    have H := H1
    clear H1
    replace H := Option.bind_eq_some_iff.mp H
    obtain ⟨t208, A50, H⟩ := H
    replace H : (some (t208, 0)) = some (r1, r2) := H
    have A5 := Aside0.mk A50
    clear A50
    simp only [Option.some.injEq, Prod.mk.injEq] at H
    obtain ⟨rfl, rfl⟩ := H
    go_enter Try.func38, Try.ntmps38
    go_wp2_with (first | ((with_reducible refine gate_callee (f := 39) rfl ?_); refine goesL_ (some 7) rfl rfl Try.func39 (by kernel_rfl) rfl #[.int .i64 a1] rfl (by (try simp only [List.map_toArray, List.map_cons, List.map_nil]); first | done | rfl | (simp only [List.length_drop, List.length_take]; rfl)) ?_; (with_reducible refine (spec_l01Size.calls a1 true _ A3.out).mono ?_); rintro e w' ⟨rfl, ⟨nd, rfl⟩⟩; refine ⟨_, rfl, ?_⟩) | ((with_reducible refine gate_callee (f := 71) rfl ?_); refine goesL_ (some 11) rfl rfl Try.func71 (by kernel_rfl) rfl #[.int .i64 a0, .int .i64 a1] rfl (by (try simp only [List.map_toArray, List.map_cons, List.map_nil]); first | done | rfl | (simp only [List.length_drop, List.length_take]; rfl)) ?_; (with_reducible refine (spec_l01Sign.calls k a0 a1 t208 _ A5.out).mono ?_); rintro e w6 ⟨rfl, hb⟩; refine ⟨_, rfl, ?_⟩; have n0_ := Aside0.mk (below_step (by repeat (first | (with_reducible first | exact HB.out | apply below_alloc | apply pw_below_drewN | apply below_drew1) | exact HB.out)) hb); clear HB; have HB := n0_; clear n0_; (try clear hb); (try clear hb2); (try clear hk); (try clear hi)))
    go_ret2
    exact ⟨by first | rfl | (simp [errW_none, errW_some] <;> rfl) | (simp [*, errW_none, errW_some] <;> rfl), by repeat (first | (with_reducible first | exact HB.out | apply below_alloc | apply pw_below_drewN | apply below_drew1) | exact HB.out)⟩
  · replace c4 := Bool.eq_false_iff.mpr c4
    subst c4
    have H1 : (some (0, 4)) = some (r1, r2) := by rw [if_neg (show ¬ (false = true) by decide)] at H; exact H
    clear H
    have H := H1
    clear H1
    simp only [Option.some.injEq, Prod.mk.injEq] at H
    obtain ⟨rfl, rfl⟩ := H
    go_enter Try.func38, Try.ntmps38
    go_wp2_with (first | ((with_reducible refine gate_callee (f := 39) rfl ?_); refine goesL_ (some 7) rfl rfl Try.func39 (by kernel_rfl) rfl #[.int .i64 a1] rfl (by (try simp only [List.map_toArray, List.map_cons, List.map_nil]); first | done | rfl | (simp only [List.length_drop, List.length_take]; rfl)) ?_; (with_reducible refine (spec_l01Size.calls a1 false _ A3.out).mono ?_); rintro e w' ⟨rfl, ⟨nd, rfl⟩⟩; refine ⟨_, rfl, ?_⟩))
    go_ret2
    exact ⟨by first | rfl | (simp [errW_none, errW_some] <;> rfl) | (simp [*, errW_none, errW_some] <;> rfl), by repeat (first | (with_reducible first | exact HB.out | apply below_alloc | apply pw_below_drewN | apply below_drew1) | exact HB.out)⟩

/-! ### laws_FnBytes: function 10 -/
set_option maxHeartbeats 8000000 in
set_option maxRecDepth 100000 in
theorem laws_FnBytes.long (A0 : Option Addr) (c0 : Nat) (l : List Int) (A1 : Option Addr) (c1 : Nat) (m : List Int) (w : World) (h : 1048576 < l.length ∨ 1048576 < m.length) :
    Calls Try.prog 10 #[.slice A0 l.length c0, .slice A1 m.length c1] w fun e w' => e = .returned (.bool true) ∧ Below w.heap.size w w' := by
  by_cases h0 : 1048576 < l.length
  · have d0 : decide ((l.length : Int) > 1048576) = true := decide_eq_true (by omega)
    clear h h0
    go_enter Try.func10, Try.ntmps10
    go_wp2
    go_ret
    exact ⟨rfl, Below.refl _ _⟩
  · have d0 : decide ((l.length : Int) > 1048576) = false := decide_eq_false (by omega)
    have d1 : decide ((m.length : Int) > 1048576) = true := decide_eq_true (by omega)
    clear h h0
    go_enter Try.func10, Try.ntmps10
    go_wp2
    go_ret
    exact ⟨rfl, Below.refl _ _⟩
set_option maxHeartbeats 8000000 in
set_option maxRecDepth 100000 in
theorem laws_FnBytes.n1 (k : Nat) (A0 : Option Addr) (c0 : Nat) (l : List Int) (A1 : Option Addr) (c1 : Nat) (m : List Int) (w : World) (v a x y u : Int) (h t : ByteArray)
    (hr0 : Kd.C (Kd.int .u8) w A0 l.length l) (hc0 : l.length ≤ c0) (hr1 : Kd.C (Kd.int .u8) w A1 m.length m) (hc1 : m.length ≤ c1) (b0 : l.length ≤ 1048576) (b1 : m.length ≤ 1048576)
    (hv : spec_NumberOf.f l = some v) (hn : laws_sizeAt.f m 0 = some 1) (ha : laws_at.f m 1 9 = some a) (hh : spec_SomeText.f k m a = some h) (ht : impl_PutLittle.f k v 1 = some (t, 0))
    (hx : impl_TakeLittle.f k (h ++ t ++ ⟨#[120]⟩) (h.size : Int) 1 = some (x, 0)) (hy : impl_SignOf.f x 1 = some (y, 0)) (hz : impl_SignOf.f v 1 = some (y, 0)) (hw : impl_ZeroOf.f v 1 = some (x, 0))
    (hf : impl_TakeLittle.f k (h ++ t) ((h.size : Int) + 1) 1 = some (u, 9)) (hs : spec_ZeroOf.f k v 1 = some (x, 0)) (hd : spec_SignOf.f k v 1 = some (y, 0)) (htl : t.size = 1) (hhl : h.size ≤ 8)
    (hb : ∀ h0 : 0 < t.size, (wrap64 ((t[0]'h0).toNat : Int) == wrap64 ((IntKind.u64.wrap v).tmod 256)) = true) :
    Calls Try.prog 10 #[.slice A0 l.length c0, .slice A1 m.length c1] w fun e w' => e = .returned (.bool true) ∧ Below w.heap.size w w' := by
  have HL := Aside0.mk (Below.refl w.heap.size w)
  have hr0' := Aside0.mk hr0
  have hc0' := Aside0.mk hc0
  have hr1' := Aside0.mk hr1
  have hc1' := Aside0.mk hc1
  have hv' := Aside0.mk hv
  have hn' := Aside0.mk hn
  have ha' := Aside0.mk ha
  have hh' := Aside0.mk hh
  have ht' := Aside0.mk ht
  have hx' := Aside0.mk hx
  have hy' := Aside0.mk hy
  have hz' := Aside0.mk hz
  have hw' := Aside0.mk hw
  have hf' := Aside0.mk hf
  have hs' := Aside0.mk hs
  have hd' := Aside0.mk hd
  clear hr0 hc0 hr1 hc1 hv hn ha hh ht hx hy hz hw hf hs hd
  have d0 : decide ((l.length : Int) > 1048576) = false := decide_eq_false (by omega)
  have d1 : decide ((m.length : Int) > 1048576) = false := decide_eq_false (by omega)
  go_enter Try.func10, Try.ntmps10
  go_wp2_with fail
  refine (spec_NumberOf.calls _ _ l v _ (Kd.C_below hr0'.out HL.out) hc0'.out hv'.out).mono ?_
  rintro e W1 ⟨rfl, hb'⟩
  replace HL := Aside0.mk (below_step HL.out hb'); clear hb'
  go_wp2_with fail
  refine (laws_sizeAt.calls _ _ m 0 1 _ (Kd.C_below hr1'.out HL.out) hc1'.out hn'.out).mono ?_
  rintro e W2 ⟨rfl, hb'⟩
  replace HL := Aside0.mk (below_step HL.out hb'); clear hb'
  go_wp2_with fail
  refine (laws_at.calls _ _ m 1 9 a _ (Kd.C_below hr1'.out HL.out) hc1'.out ha'.out).mono ?_
  rintro e W3 ⟨rfl, hd2⟩
  have hb' := hd2.below
  replace HL := Aside0.mk (below_step HL.out hb'); clear hb'
  clear hd2
  go_wp2_with fail
  refine (spec_SomeText.calls k _ _ m a h _ (Kd.C_below hr1'.out HL.out) hc1'.out hh'.out).mono ?_
  rintro e W4 ⟨rfl, hb'⟩
  replace HL := Aside0.mk (below_step HL.out hb'); clear hb'
  go_wp2_with fail
  refine (impl_PutLittle.calls k v 1 t 0 _ ht'.out).mono ?_
  rintro e W5 ⟨rfl, hb'⟩
  replace HL := Aside0.mk (below_step HL.out hb'); clear hb'
  go_wp2_with fail
  refine (impl_TakeLittle.calls k _ _ _ x 0 _ hx'.out).mono ?_
  rintro e W6 ⟨rfl, hd2⟩
  have hb' := hd2.below
  replace HL := Aside0.mk (below_step HL.out hb'); clear hb'
  clear hd2
  go_wp2_with fail
  refine (impl_SignOf.calls x 1 y 0 _ hy'.out).mono ?_
  rintro e W7 ⟨rfl, hd2⟩
  have hb' := hd2.below
  replace HL := Aside0.mk (below_step HL.out hb'); clear hb'
  clear hd2
  go_wp2_with fail
  refine (impl_SignOf.calls v 1 y 0 _ hz'.out).mono ?_
  rintro e W8 ⟨rfl, hd2⟩
  have hb' := hd2.below
  replace HL := Aside0.mk (below_step HL.out hb'); clear hb'
  clear hd2
  go_wp2_with fail
  refine (impl_ZeroOf.calls v 1 x 0 _ hw'.out).mono ?_
  rintro e W9 ⟨rfl, hd2⟩
  have hb' := hd2.below
  replace HL := Aside0.mk (below_step HL.out hb'); clear hb'
  clear hd2
  go_wp2_with fail
  refine (impl_TakeLittle.calls k _ _ _ u 9 _ hf'.out).mono ?_
  rintro e W10 ⟨rfl, hd2⟩
  have hb' := hd2.below
  replace HL := Aside0.mk (below_step HL.out hb'); clear hb'
  clear hd2
  go_wp2_with fail
  refine (spec_ZeroOf.calls k v 1 x 0 _ hs'.out).mono ?_
  rintro e W11 ⟨rfl, hd2⟩
  have hb' := hd2.below
  replace HL := Aside0.mk (below_step HL.out hb'); clear hb'
  clear hd2
  go_wp2_with fail
  refine (spec_SignOf.calls k v 1 y 0 _ hd'.out).mono ?_
  rintro e W12 ⟨rfl, hb'⟩
  replace HL := Aside0.mk (below_step HL.out hb'); clear hb'
  have hb0 := hb (by omega)
  clear hb
  as_aux_lemma =>
    go_wp2
    go_ret
    exact ⟨by first | rfl | (simp; done), HL.out⟩
set_option maxHeartbeats 8000000 in
set_option maxRecDepth 100000 in
theorem laws_FnBytes.n2 (k : Nat) (A0 : Option Addr) (c0 : Nat) (l : List Int) (A1 : Option Addr) (c1 : Nat) (m : List Int) (w : World) (v a x y u : Int) (h t : ByteArray)
    (hr0 : Kd.C (Kd.int .u8) w A0 l.length l) (hc0 : l.length ≤ c0) (hr1 : Kd.C (Kd.int .u8) w A1 m.length m) (hc1 : m.length ≤ c1) (b0 : l.length ≤ 1048576) (b1 : m.length ≤ 1048576)
    (hv : spec_NumberOf.f l = some v) (hn : laws_sizeAt.f m 0 = some 2) (ha : laws_at.f m 1 9 = some a) (hh : spec_SomeText.f k m a = some h) (ht : impl_PutLittle.f k v 2 = some (t, 0))
    (hx : impl_TakeLittle.f k (h ++ t ++ ⟨#[120]⟩) (h.size : Int) 2 = some (x, 0)) (hy : impl_SignOf.f x 2 = some (y, 0)) (hz : impl_SignOf.f v 2 = some (y, 0)) (hw : impl_ZeroOf.f v 2 = some (x, 0))
    (hf : impl_TakeLittle.f k (h ++ t) ((h.size : Int) + 1) 2 = some (u, 9)) (hs : spec_ZeroOf.f k v 2 = some (x, 0)) (hd : spec_SignOf.f k v 2 = some (y, 0)) (htl : t.size = 2) (hhl : h.size ≤ 8)
    (hb : ∀ h0 : 0 < t.size, (wrap64 ((t[0]'h0).toNat : Int) == wrap64 ((IntKind.u64.wrap v).tmod 256)) = true) :
    Calls Try.prog 10 #[.slice A0 l.length c0, .slice A1 m.length c1] w fun e w' => e = .returned (.bool true) ∧ Below w.heap.size w w' := by
  have HL := Aside0.mk (Below.refl w.heap.size w)
  have hr0' := Aside0.mk hr0
  have hc0' := Aside0.mk hc0
  have hr1' := Aside0.mk hr1
  have hc1' := Aside0.mk hc1
  have hv' := Aside0.mk hv
  have hn' := Aside0.mk hn
  have ha' := Aside0.mk ha
  have hh' := Aside0.mk hh
  have ht' := Aside0.mk ht
  have hx' := Aside0.mk hx
  have hy' := Aside0.mk hy
  have hz' := Aside0.mk hz
  have hw' := Aside0.mk hw
  have hf' := Aside0.mk hf
  have hs' := Aside0.mk hs
  have hd' := Aside0.mk hd
  clear hr0 hc0 hr1 hc1 hv hn ha hh ht hx hy hz hw hf hs hd
  have d0 : decide ((l.length : Int) > 1048576) = false := decide_eq_false (by omega)
  have d1 : decide ((m.length : Int) > 1048576) = false := decide_eq_false (by omega)
  go_enter Try.func10, Try.ntmps10
  go_wp2_with fail
  refine (spec_NumberOf.calls _ _ l v _ (Kd.C_below hr0'.out HL.out) hc0'.out hv'.out).mono ?_
  rintro e W1 ⟨rfl, hb'⟩
  replace HL := Aside0.mk (below_step HL.out hb'); clear hb'
  go_wp2_with fail
  refine (laws_sizeAt.calls _ _ m 0 2 _ (Kd.C_below hr1'.out HL.out) hc1'.out hn'.out).mono ?_
  rintro e W2 ⟨rfl, hb'⟩
  replace HL := Aside0.mk (below_step HL.out hb'); clear hb'
  go_wp2_with fail
  refine (laws_at.calls _ _ m 1 9 a _ (Kd.C_below hr1'.out HL.out) hc1'.out ha'.out).mono ?_
  rintro e W3 ⟨rfl, hd2⟩
  have hb' := hd2.below
  replace HL := Aside0.mk (below_step HL.out hb'); clear hb'
  clear hd2
  go_wp2_with fail
  refine (spec_SomeText.calls k _ _ m a h _ (Kd.C_below hr1'.out HL.out) hc1'.out hh'.out).mono ?_
  rintro e W4 ⟨rfl, hb'⟩
  replace HL := Aside0.mk (below_step HL.out hb'); clear hb'
  go_wp2_with fail
  refine (impl_PutLittle.calls k v 2 t 0 _ ht'.out).mono ?_
  rintro e W5 ⟨rfl, hb'⟩
  replace HL := Aside0.mk (below_step HL.out hb'); clear hb'
  go_wp2_with fail
  refine (impl_TakeLittle.calls k _ _ _ x 0 _ hx'.out).mono ?_
  rintro e W6 ⟨rfl, hd2⟩
  have hb' := hd2.below
  replace HL := Aside0.mk (below_step HL.out hb'); clear hb'
  clear hd2
  go_wp2_with fail
  refine (impl_SignOf.calls x 2 y 0 _ hy'.out).mono ?_
  rintro e W7 ⟨rfl, hd2⟩
  have hb' := hd2.below
  replace HL := Aside0.mk (below_step HL.out hb'); clear hb'
  clear hd2
  go_wp2_with fail
  refine (impl_SignOf.calls v 2 y 0 _ hz'.out).mono ?_
  rintro e W8 ⟨rfl, hd2⟩
  have hb' := hd2.below
  replace HL := Aside0.mk (below_step HL.out hb'); clear hb'
  clear hd2
  go_wp2_with fail
  refine (impl_ZeroOf.calls v 2 x 0 _ hw'.out).mono ?_
  rintro e W9 ⟨rfl, hd2⟩
  have hb' := hd2.below
  replace HL := Aside0.mk (below_step HL.out hb'); clear hb'
  clear hd2
  go_wp2_with fail
  refine (impl_TakeLittle.calls k _ _ _ u 9 _ hf'.out).mono ?_
  rintro e W10 ⟨rfl, hd2⟩
  have hb' := hd2.below
  replace HL := Aside0.mk (below_step HL.out hb'); clear hb'
  clear hd2
  go_wp2_with fail
  refine (spec_ZeroOf.calls k v 2 x 0 _ hs'.out).mono ?_
  rintro e W11 ⟨rfl, hd2⟩
  have hb' := hd2.below
  replace HL := Aside0.mk (below_step HL.out hb'); clear hb'
  clear hd2
  go_wp2_with fail
  refine (spec_SignOf.calls k v 2 y 0 _ hd'.out).mono ?_
  rintro e W12 ⟨rfl, hb'⟩
  replace HL := Aside0.mk (below_step HL.out hb'); clear hb'
  have hb0 := hb (by omega)
  clear hb
  as_aux_lemma =>
    go_wp2
    go_ret
    exact ⟨by first | rfl | (simp; done), HL.out⟩
set_option maxHeartbeats 8000000 in
set_option maxRecDepth 100000 in
theorem laws_FnBytes.n4 (k : Nat) (A0 : Option Addr) (c0 : Nat) (l : List Int) (A1 : Option Addr) (c1 : Nat) (m : List Int) (w : World) (v a x y u : Int) (h t : ByteArray)
    (hr0 : Kd.C (Kd.int .u8) w A0 l.length l) (hc0 : l.length ≤ c0) (hr1 : Kd.C (Kd.int .u8) w A1 m.length m) (hc1 : m.length ≤ c1) (b0 : l.length ≤ 1048576) (b1 : m.length ≤ 1048576)
    (hv : spec_NumberOf.f l = some v) (hn : laws_sizeAt.f m 0 = some 4) (ha : laws_at.f m 1 9 = some a) (hh : spec_SomeText.f k m a = some h) (ht : impl_PutLittle.f k v 4 = some (t, 0))
    (hx : impl_TakeLittle.f k (h ++ t ++ ⟨#[120]⟩) (h.size : Int) 4 = some (x, 0)) (hy : impl_SignOf.f x 4 = some (y, 0)) (hz : impl_SignOf.f v 4 = some (y, 0)) (hw : impl_ZeroOf.f v 4 = some (x, 0))
    (hf : impl_TakeLittle.f k (h ++ t) ((h.size : Int) + 1) 4 = some (u, 9)) (hs : spec_ZeroOf.f k v 4 = some (x, 0)) (hd : spec_SignOf.f k v 4 = some (y, 0)) (htl : t.size = 4) (hhl : h.size ≤ 8)
    (hb : ∀ h0 : 0 < t.size, (wrap64 ((t[0]'h0).toNat : Int) == wrap64 ((IntKind.u64.wrap v).tmod 256)) = true) :
    Calls Try.prog 10 #[.slice A0 l.length c0, .slice A1 m.length c1] w fun e w' => e = .returned (.bool true) ∧ Below w.heap.size w w' := by
  have HL := Aside0.mk (Below.refl w.heap.size w)
  have hr0' := Aside0.mk hr0
  have hc0' := Aside0.mk hc0
  have hr1' := Aside0.mk hr1
  have hc1' := Aside0.mk hc1
  have hv' := Aside0.mk hv
  have hn' := Aside0.mk hn
  have ha' := Aside0.mk ha
  have hh' := Aside0.mk hh
  have ht' := Aside0.mk ht
  have hx' := Aside0.mk hx
  have hy' := Aside0.mk hy
  have hz' := Aside0.mk hz
  have hw' := Aside0.mk hw
  have hf' := Aside0.mk hf
  have hs' := Aside0.mk hs
  have hd' := Aside0.mk hd
  clear hr0 hc0 hr1 hc1 hv hn ha hh ht hx hy hz hw hf hs hd
  have d0 : decide ((l.length : Int) > 1048576) = false := decide_eq_false (by omega)
  have d1 : decide ((m.length : Int) > 1048576) = false := decide_eq_false (by omega)
  go_enter Try.func10, Try.ntmps10
  go_wp2_with fail
  refine (spec_NumberOf.calls _ _ l v _ (Kd.C_below hr0'.out HL.out) hc0'.out hv'.out).mono ?_
  rintro e W1 ⟨rfl, hb'⟩
  replace HL := Aside0.mk (below_step HL.out hb'); clear hb'
  go_wp2_with fail
  refine (laws_sizeAt.calls _ _ m 0 4 _ (Kd.C_below hr1'.out HL.out) hc1'.out hn'.out).mono ?_
  rintro e W2 ⟨rfl, hb'⟩
  replace HL := Aside0.mk (below_step HL.out hb'); clear hb'
  go_wp2_with fail
  refine (laws_at.calls _ _ m 1 9 a _ (Kd.C_below hr1'.out HL.out) hc1'.out ha'.out).mono ?_
  rintro e W3 ⟨rfl, hd2⟩
  have hb' := hd2.below
  replace HL := Aside0.mk (below_step HL.out hb'); clear hb'
  clear hd2
  go_wp2_with fail
  refine (spec_SomeText.calls k _ _ m a h _ (Kd.C_below hr1'.out HL.out) hc1'.out hh'.out).mono ?_
  rintro e W4 ⟨rfl, hb'⟩
  replace HL := Aside0.mk (below_step HL.out hb'); clear hb'
  go_wp2_with fail
  refine (impl_PutLittle.calls k v 4 t 0 _ ht'.out).mono ?_
  rintro e W5 ⟨rfl, hb'⟩
  replace HL := Aside0.mk (below_step HL.out hb'); clear hb'
  go_wp2_with fail
  refine (impl_TakeLittle.calls k _ _ _ x 0 _ hx'.out).mono ?_
  rintro e W6 ⟨rfl, hd2⟩
  have hb' := hd2.below
  replace HL := Aside0.mk (below_step HL.out hb'); clear hb'
  clear hd2
  go_wp2_with fail
  refine (impl_SignOf.calls x 4 y 0 _ hy'.out).mono ?_
  rintro e W7 ⟨rfl, hd2⟩
  have hb' := hd2.below
  replace HL := Aside0.mk (below_step HL.out hb'); clear hb'
  clear hd2
  go_wp2_with fail
  refine (impl_SignOf.calls v 4 y 0 _ hz'.out).mono ?_
  rintro e W8 ⟨rfl, hd2⟩
  have hb' := hd2.below
  replace HL := Aside0.mk (below_step HL.out hb'); clear hb'
  clear hd2
  go_wp2_with fail
  refine (impl_ZeroOf.calls v 4 x 0 _ hw'.out).mono ?_
  rintro e W9 ⟨rfl, hd2⟩
  have hb' := hd2.below
  replace HL := Aside0.mk (below_step HL.out hb'); clear hb'
  clear hd2
  go_wp2_with fail
  refine (impl_TakeLittle.calls k _ _ _ u 9 _ hf'.out).mono ?_
  rintro e W10 ⟨rfl, hd2⟩
  have hb' := hd2.below
  replace HL := Aside0.mk (below_step HL.out hb'); clear hb'
  clear hd2
  go_wp2_with fail
  refine (spec_ZeroOf.calls k v 4 x 0 _ hs'.out).mono ?_
  rintro e W11 ⟨rfl, hd2⟩
  have hb' := hd2.below
  replace HL := Aside0.mk (below_step HL.out hb'); clear hb'
  clear hd2
  go_wp2_with fail
  refine (spec_SignOf.calls k v 4 y 0 _ hd'.out).mono ?_
  rintro e W12 ⟨rfl, hb'⟩
  replace HL := Aside0.mk (below_step HL.out hb'); clear hb'
  have hb0 := hb (by omega)
  clear hb
  as_aux_lemma =>
    go_wp2
    go_ret
    exact ⟨by first | rfl | (simp; done), HL.out⟩
set_option maxHeartbeats 8000000 in
set_option maxRecDepth 100000 in
theorem laws_FnBytes.n8 (k : Nat) (A0 : Option Addr) (c0 : Nat) (l : List Int) (A1 : Option Addr) (c1 : Nat) (m : List Int) (w : World) (v a y u : Int) (h t : ByteArray)
    (hr0 : Kd.C (Kd.int .u8) w A0 l.length l) (hc0 : l.length ≤ c0) (hr1 : Kd.C (Kd.int .u8) w A1 m.length m) (hc1 : m.length ≤ c1) (b0 : l.length ≤ 1048576) (b1 : m.length ≤ 1048576)
    (hv : spec_NumberOf.f l = some v) (hn : laws_sizeAt.f m 0 = some 8) (ha : laws_at.f m 1 9 = some a) (hh : spec_SomeText.f k m a = some h) (ht : impl_PutLittle.f k v 8 = some (t, 0))
    (hx : impl_TakeLittle.f k (h ++ t ++ ⟨#[120]⟩) (h.size : Int) 8 = some (v, 0)) (hy : impl_SignOf.f v 8 = some (y, 0)) (hz : impl_SignOf.f v 8 = some (y, 0)) (hw : impl_ZeroOf.f v 8 = some (v, 0))
    (hf : impl_TakeLittle.f k (h ++ t) ((h.size : Int) + 1) 8 = some (u, 9)) (hs : spec_ZeroOf.f k v 8 = some (v, 0)) (hd : spec_SignOf.f k v 8 = some (y, 0)) (htl : t.size = 8) (hhl : h.size ≤ 8)
    (hb : ∀ h0 : 0 < t.size, (wrap64 ((t[0]'h0).toNat : Int) == wrap64 ((IntKind.u64.wrap v).tmod 256)) = true) :
    Calls Try.prog 10 #[.slice A0 l.length c0, .slice A1 m.length c1] w fun e w' => e = .returned (.bool true) ∧ Below w.heap.size w w' := by
  have HL := Aside0.mk (Below.refl w.heap.size w)
  have hr0' := Aside0.mk hr0
  have hc0' := Aside0.mk hc0
  have hr1' := Aside0.mk hr1
  have hc1' := Aside0.mk hc1
  have hv' := Aside0.mk hv
  have hn' := Aside0.mk hn
  have ha' := Aside0.mk ha
  have hh' := Aside0.mk hh
  have ht' := Aside0.mk ht
  have hx' := Aside0.mk hx
  have hy' := Aside0.mk hy
  have hz' := Aside0.mk hz
  have hw' := Aside0.mk hw
  have hf' := Aside0.mk hf
  have hs' := Aside0.mk hs
  have hd' := Aside0.mk hd
  clear hr0 hc0 hr1 hc1 hv hn ha hh ht hx hy hz hw hf hs hd
  have d0 : decide ((l.length : Int) > 1048576) = false := decide_eq_false (by omega)
  have d1 : decide ((m.length : Int) > 1048576) = false := decide_eq_false (by omega)
  go_enter Try.func10, Try.ntmps10
  go_wp2_with fail
  refine (spec_NumberOf.calls _ _ l v _ (Kd.C_below hr0'.out HL.out) hc0'.out hv'.out).mono ?_
  rintro e W1 ⟨rfl, hb'⟩
  replace HL := Aside0.mk (below_step HL.out hb'); clear hb'
  go_wp2_with fail
  refine (laws_sizeAt.calls _ _ m 0 8 _ (Kd.C_below hr1'.out HL.out) hc1'.out hn'.out).mono ?_
  rintro e W2 ⟨rfl, hb'⟩
  replace HL := Aside0.mk (below_step HL.out hb'); clear hb'
  go_wp2_with fail
  refine (laws_at.calls _ _ m 1 9 a _ (Kd.C_below hr1'.out HL.out) hc1'.out ha'.out).mono ?_
  rintro e W3 ⟨rfl, hd2⟩
  have hb' := hd2.below
  replace HL := Aside0.mk (below_step HL.out hb'); clear hb'
  clear hd2
  go_wp2_with fail
  refine (spec_SomeText.calls k _ _ m a h _ (Kd.C_below hr1'.out HL.out) hc1'.out hh'.out).mono ?_
  rintro e W4 ⟨rfl, hb'⟩
  replace HL := Aside0.mk (below_step HL.out hb'); clear hb'
  go_wp2_with fail
  refine (impl_PutLittle.calls k v 8 t 0 _ ht'.out).mono ?_
  rintro e W5 ⟨rfl, hb'⟩
  replace HL := Aside0.mk (below_step HL.out hb'); clear hb'
  go_wp2_with fail
  refine (impl_TakeLittle.calls k _ _ _ v 0 _ hx'.out).mono ?_
  rintro e W6 ⟨rfl, hd2⟩
  have hb' := hd2.below
  replace HL := Aside0.mk (below_step HL.out hb'); clear hb'
  clear hd2
  go_wp2_with fail
  refine (impl_SignOf.calls v 8 y 0 _ hy'.out).mono ?_
  rintro e W7 ⟨rfl, hd2⟩
  have hb' := hd2.below
  replace HL := Aside0.mk (below_step HL.out hb'); clear hb'
  clear hd2
  go_wp2_with fail
  refine (impl_SignOf.calls v 8 y 0 _ hz'.out).mono ?_
  rintro e W8 ⟨rfl, hd2⟩
  have hb' := hd2.below
  replace HL := Aside0.mk (below_step HL.out hb'); clear hb'
  clear hd2
  go_wp2_with fail
  refine (impl_ZeroOf.calls v 8 v 0 _ hw'.out).mono ?_
  rintro e W9 ⟨rfl, hd2⟩
  have hb' := hd2.below
  replace HL := Aside0.mk (below_step HL.out hb'); clear hb'
  clear hd2
  go_wp2_with fail
  refine (impl_TakeLittle.calls k _ _ _ u 9 _ hf'.out).mono ?_
  rintro e W10 ⟨rfl, hd2⟩
  have hb' := hd2.below
  replace HL := Aside0.mk (below_step HL.out hb'); clear hb'
  clear hd2
  go_wp2_with fail
  refine (spec_ZeroOf.calls k v 8 v 0 _ hs'.out).mono ?_
  rintro e W11 ⟨rfl, hd2⟩
  have hb' := hd2.below
  replace HL := Aside0.mk (below_step HL.out hb'); clear hb'
  clear hd2
  go_wp2_with fail
  refine (spec_SignOf.calls k v 8 y 0 _ hd'.out).mono ?_
  rintro e W12 ⟨rfl, hb'⟩
  replace HL := Aside0.mk (below_step HL.out hb'); clear hb'
  have hb0 := hb (by omega)
  clear hb
  as_aux_lemma =>
    go_wp2
    go_ret
    exact ⟨by first | rfl | (simp; done), HL.out⟩


end Go.Proofs.Ytdljhgmgpnpfiaa.PFnBytes
