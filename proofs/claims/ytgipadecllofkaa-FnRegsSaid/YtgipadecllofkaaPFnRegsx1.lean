-- Written for this claim by the session's own program, out of the translation. Not trusted: Lean checks it.
import Derived.Test.YtgipadecllofkaaPFnRegsx0
namespace Go.Proofs.Ytgipadecllofkaa.PFnRegs
open Go.RowKit Go.Proofs.YtgipadecllofkaaW.PrintWords Go.Proofs.YtgipadecllofkaaW.PrintLast Go.Proofs.YtgipadecllofkaaW.PrintMore
attribute [local go_sem] max2_int min2_int max_two min_two max_three min_three max_four min_four   -- for this text's walks alone
set_option linter.unusedVariables false
set_option linter.unusedSimpArgs false

/-! ### impl_within: function 30 -/
def impl_within.f (a0 : Int) (a1 : Int) (a2 : Int) : Option (Bool) := if a0 ≥ a1 then (some (decide (a0 ≤ a2))) else (some false)
set_option maxHeartbeats 8000000 in
set_option maxRecDepth 100000 in
theorem impl_within.calls (a0 : Int) (a1 : Int) (a2 : Int) (r : Bool) (w : World) (h : impl_within.f a0 a1 a2 = some r) :
    Calls Try.prog 30 #[.int .i64 a0, .int .i64 a1, .int .i64 a2] w fun e w' => e = .returned (.bool r) ∧ Drawn0 w w' := by
  have H : (if a0 ≥ a1 then (some (decide (a0 ≤ a2))) else (some false)) = some r := h
  clear h
  by_cases c4 : a0 ≥ a1
  · rw [if_pos c4] at H
    have c4b0 : decide (a1 ≤ a0) = true := decide_eq_true c4
    clear c4
    obtain rfl := Option.some.inj H
    go_enter Try.func30, Try.ntmps30
    go_wp2
    go_ret
    exact ⟨by first | rfl | (simp; done) | (simp [*]; done), by repeat (first | exact Drawn0.refl _ | apply Drawn0.step)⟩
  · rw [if_neg c4] at H
    have c4b0 : decide (a1 ≤ a0) = false := decide_eq_false c4
    clear c4
    obtain rfl := Option.some.inj H
    go_enter Try.func30, Try.ntmps30
    go_wp2
    go_ret
    exact ⟨by first | rfl | (simp; done) | (simp [*]; done), by repeat (first | exact Drawn0.refl _ | apply Drawn0.step)⟩

/-! ### impl_isSize: function 43 -/
def impl_isSize.f (a0 : Int) : Option (Bool) := if a0 = 1 then (some true) else (if a0 = 2 then (some true) else (if a0 = 4 then (some true) else (some (a0 == 8))))
set_option maxHeartbeats 8000000 in
set_option maxRecDepth 100000 in
theorem impl_isSize.calls (a0 : Int) (r : Bool) (w : World) (h : impl_isSize.f a0 = some r) :
    Calls Try.prog 43 #[.int .i64 a0] w fun e w' => e = .returned (.bool r) ∧ Drawn0 w w' := by
  have H : (if a0 = 1 then (some true) else (if a0 = 2 then (some true) else (if a0 = 4 then (some true) else (some (a0 == 8))))) = some r := h
  clear h
  by_cases c2 : a0 = 1
  · rw [if_pos c2] at H
    have c2b0 : (a0 == 1) = true := beq_iff_eq.mpr c2
    have c2b1 : (a0 != 1) = false := bne_eq_false_iff_eq.mpr c2
    clear c2
    obtain rfl := Option.some.inj H
    go_enter Try.func43, Try.ntmps43
    go_wp2
    go_ret
    exact ⟨by first | rfl | (simp; done) | (simp [*]; done), by repeat (first | exact Drawn0.refl _ | apply Drawn0.step)⟩
  · rw [if_neg c2] at H
    have c2b0 : (a0 == 1) = false := beq_eq_false_iff_ne.mpr c2
    have c2b1 : (a0 != 1) = true := bne_iff_ne.mpr c2
    by_cases c3 : a0 = 2
    · rw [if_pos c3] at H
      have c3b0 : (a0 == 2) = true := beq_iff_eq.mpr c3
      have c3b1 : (a0 != 2) = false := bne_eq_false_iff_eq.mpr c3
      clear c3
      obtain rfl := Option.some.inj H
      go_enter Try.func43, Try.ntmps43
      go_wp2
      go_ret
      exact ⟨by first | rfl | (simp; done) | (simp [*]; done), by repeat (first | exact Drawn0.refl _ | apply Drawn0.step)⟩
    · rw [if_neg c3] at H
      have c3b0 : (a0 == 2) = false := beq_eq_false_iff_ne.mpr c3
      have c3b1 : (a0 != 2) = true := bne_iff_ne.mpr c3
      by_cases c4 : a0 = 4
      · rw [if_pos c4] at H
        have c4b0 : (a0 == 4) = true := beq_iff_eq.mpr c4
        have c4b1 : (a0 != 4) = false := bne_eq_false_iff_eq.mpr c4
        clear c4
        obtain rfl := Option.some.inj H
        go_enter Try.func43, Try.ntmps43
        go_wp2
        go_ret
        exact ⟨by first | rfl | (simp; done) | (simp [*]; done), by repeat (first | exact Drawn0.refl _ | apply Drawn0.step)⟩
      · rw [if_neg c4] at H
        have c4b0 : (a0 == 4) = false := beq_eq_false_iff_ne.mpr c4
        have c4b1 : (a0 != 4) = true := bne_iff_ne.mpr c4
        obtain rfl := Option.some.inj H
        go_enter Try.func43, Try.ntmps43
        go_wp2
        go_ret
        exact ⟨by first | rfl | (simp; done) | (simp [*]; done), by repeat (first | exact Drawn0.refl _ | apply Drawn0.step)⟩

/-! ### impl_isHigh: function 72 -/
def impl_isHigh.f (a0 : Int) : Option (Bool) := (impl_within.f a0 16 19).bind fun t101 => (some t101)
set_option maxHeartbeats 8000000 in
set_option maxRecDepth 100000 in
theorem impl_isHigh.calls (a0 : Int) (r : Bool) (w : World) (h : impl_isHigh.f a0 = some r) :
    Calls Try.prog 72 #[.int .i64 a0] w fun e w' => e = .returned (.bool r) ∧ Drawn0 w w' := by
  have H : ((impl_within.f a0 16 19).bind fun t101 => (some t101)) = some r := h
  clear h
  replace H := Option.bind_eq_some_iff.mp H
  obtain ⟨t101, A20, H⟩ := H
  replace H : (some t101) = some r := H
  have A2 := Aside0.mk A20
  clear A20
  obtain rfl := Option.some.inj H
  go_enter Try.func72, Try.ntmps72
  go_wp2_with (first | ((with_reducible refine gate_callee (f := 30) rfl ?_); refine goesL_ (some 4) rfl rfl Try.func30 (by kernel_rfl) rfl #[.int .i64 a0, .int .i64 16, .int .i64 19] rfl (by (try simp only [List.map_toArray, List.map_cons, List.map_nil]); first | done | rfl | (simp only [List.length_drop, List.length_take]; rfl)) ?_; (with_reducible refine (impl_within.calls a0 16 19 t101 _ A2.out).mono ?_); rintro e w' ⟨rfl, ⟨nd, rfl⟩⟩; refine ⟨_, rfl, ?_⟩))
  go_ret
  exact ⟨by first | rfl | (simp; done) | (simp [*]; done), by repeat (first | exact Drawn0.refl _ | apply Drawn0.step)⟩

/-! ### impl_isReg: function 45 -/
def impl_isReg.f (a0 : Int) (a1 : Int) : Option (Bool) := (impl_isSize.f a1).bind fun t102 => (if t102 = true then ((impl_within.f a0 0 15).bind fun t103 => (if t103 = true then (some true) else (if a1 = 1 then ((impl_isHigh.f a0).bind fun t104 => (some t104)) else (some false)))) else (some false))
set_option maxHeartbeats 8000000 in
set_option maxRecDepth 100000 in
theorem impl_isReg.calls (a0 : Int) (a1 : Int) (r : Bool) (w : World) (h : impl_isReg.f a0 a1 = some r) :
    Calls Try.prog 45 #[.int .i64 a0, .int .i64 a1] w fun e w' => e = .returned (.bool r) ∧ Drawn0 w w' := by
  have H : ((impl_isSize.f a1).bind fun t102 => (if t102 = true then ((impl_within.f a0 0 15).bind fun t103 => (if t103 = true then (some true) else (if a1 = 1 then ((impl_isHigh.f a0).bind fun t104 => (some t104)) else (some false)))) else (some false))) = some r := h
  clear h
  replace H := Option.bind_eq_some_iff.mp H
  obtain ⟨t102, A30, H⟩ := H
  replace H : (if t102 = true then ((impl_within.f a0 0 15).bind fun t103 => (if t103 = true then (some true) else (if a1 = 1 then ((impl_isHigh.f a0).bind fun t104 => (some t104)) else (some false)))) else (some false)) = some r := H
  have A3 := Aside0.mk A30
  clear A30
  by_cases c4 : t102 = true
  · subst c4
    have H1 : ((impl_within.f a0 0 15).bind fun t103 => (if t103 = true then (some true) else (if a1 = 1 then ((impl_isHigh.f a0).bind fun t104 => (some t104)) else (some false)))) = some r := by rw [if_pos rfl] at H; exact H
    clear H
    have H := H1
    clear H1
    replace H := Option.bind_eq_some_iff.mp H
    obtain ⟨t103, A50, H⟩ := H
    replace H : (if t103 = true then (some true) else (if a1 = 1 then ((impl_isHigh.f a0).bind fun t104 => (some t104)) else (some false))) = some r := H
    have A5 := Aside0.mk A50
    clear A50
    by_cases c6 : t103 = true
    · subst c6
      have H1 : (some true) = some r := by rw [if_pos rfl] at H; exact H
      clear H
      have H := H1
      clear H1
      obtain rfl := Option.some.inj H
      go_enter Try.func45, Try.ntmps45
      go_wp2_with (first | ((with_reducible refine gate_callee (f := 43) rfl ?_); refine goesL_ (some 6) rfl rfl Try.func43 (by kernel_rfl) rfl #[.int .i64 a1] rfl (by (try simp only [List.map_toArray, List.map_cons, List.map_nil]); first | done | rfl | (simp only [List.length_drop, List.length_take]; rfl)) ?_; (with_reducible refine (impl_isSize.calls a1 true _ A3.out).mono ?_); rintro e w' ⟨rfl, ⟨nd, rfl⟩⟩; refine ⟨_, rfl, ?_⟩) | (go_at_call 30; (with_reducible refine (impl_within.calls a0 0 15 true _ A5.out).mono ?_); rintro e w' ⟨rfl, ⟨nd, rfl⟩⟩))
      go_ret
      exact ⟨by first | rfl | (simp; done) | (simp [*]; done), by repeat (first | exact Drawn0.refl _ | apply Drawn0.step)⟩
    · replace c6 := Bool.eq_false_iff.mpr c6
      subst c6
      have H1 : (if a1 = 1 then ((impl_isHigh.f a0).bind fun t104 => (some t104)) else (some false)) = some r := by rw [if_neg (show ¬ (false = true) by decide)] at H; exact H
      clear H
      have H := H1
      clear H1
      by_cases c7 : a1 = 1
      · rw [if_pos c7] at H
        have c7b0 : (a1 == 1) = true := beq_iff_eq.mpr c7
        have c7b1 : (a1 != 1) = false := bne_eq_false_iff_eq.mpr c7
        clear c7
        replace H := Option.bind_eq_some_iff.mp H
        obtain ⟨t104, A80, H⟩ := H
        replace H : (some t104) = some r := H
        have A8 := Aside0.mk A80
        clear A80
        obtain rfl := Option.some.inj H
        go_enter Try.func45, Try.ntmps45
        go_wp2_with (first | ((with_reducible refine gate_callee (f := 43) rfl ?_); refine goesL_ (some 6) rfl rfl Try.func43 (by kernel_rfl) rfl #[.int .i64 a1] rfl (by (try simp only [List.map_toArray, List.map_cons, List.map_nil]); first | done | rfl | (simp only [List.length_drop, List.length_take]; rfl)) ?_; (with_reducible refine (impl_isSize.calls a1 true _ A3.out).mono ?_); rintro e w' ⟨rfl, ⟨nd, rfl⟩⟩; refine ⟨_, rfl, ?_⟩) | (go_at_call 30; (with_reducible refine (impl_within.calls a0 0 15 false _ A5.out).mono ?_); rintro e w' ⟨rfl, ⟨nd, rfl⟩⟩) | (go_at_call 72; (with_reducible refine (impl_isHigh.calls a0 t104 _ A8.out).mono ?_); rintro e w' ⟨rfl, ⟨nd, rfl⟩⟩))
        go_ret
        exact ⟨by first | rfl | (simp; done) | (simp [*]; done), by repeat (first | exact Drawn0.refl _ | apply Drawn0.step)⟩
      · rw [if_neg c7] at H
        have c7b0 : (a1 == 1) = false := beq_eq_false_iff_ne.mpr c7
        have c7b1 : (a1 != 1) = true := bne_iff_ne.mpr c7
        obtain rfl := Option.some.inj H
        go_enter Try.func45, Try.ntmps45
        go_wp2_with (first | ((with_reducible refine gate_callee (f := 43) rfl ?_); refine goesL_ (some 6) rfl rfl Try.func43 (by kernel_rfl) rfl #[.int .i64 a1] rfl (by (try simp only [List.map_toArray, List.map_cons, List.map_nil]); first | done | rfl | (simp only [List.length_drop, List.length_take]; rfl)) ?_; (with_reducible refine (impl_isSize.calls a1 true _ A3.out).mono ?_); rintro e w' ⟨rfl, ⟨nd, rfl⟩⟩; refine ⟨_, rfl, ?_⟩) | (go_at_call 30; (with_reducible refine (impl_within.calls a0 0 15 false _ A5.out).mono ?_); rintro e w' ⟨rfl, ⟨nd, rfl⟩⟩))
        go_ret
        exact ⟨by first | rfl | (simp; done) | (simp [*]; done), by repeat (first | exact Drawn0.refl _ | apply Drawn0.step)⟩
  · replace c4 := Bool.eq_false_iff.mpr c4
    subst c4
    have H1 : (some false) = some r := by rw [if_neg (show ¬ (false = true) by decide)] at H; exact H
    clear H
    have H := H1
    clear H1
    obtain rfl := Option.some.inj H
    go_enter Try.func45, Try.ntmps45
    go_wp2_with (first | ((with_reducible refine gate_callee (f := 43) rfl ?_); refine goesL_ (some 6) rfl rfl Try.func43 (by kernel_rfl) rfl #[.int .i64 a1] rfl (by (try simp only [List.map_toArray, List.map_cons, List.map_nil]); first | done | rfl | (simp only [List.length_drop, List.length_take]; rfl)) ?_; (with_reducible refine (impl_isSize.calls a1 false _ A3.out).mono ?_); rintro e w' ⟨rfl, ⟨nd, rfl⟩⟩; refine ⟨_, rfl, ?_⟩))
    go_ret
    exact ⟨by first | rfl | (simp; done) | (simp [*]; done), by repeat (first | exact Drawn0.refl _ | apply Drawn0.step)⟩

/-! ### impl_areFlags: function 77 -/
def impl_areFlags.f (a0 : Int) : Option (Bool) := some ((Go.bits .andNot .i64 a0 2245) == 0)
set_option maxHeartbeats 8000000 in
set_option maxRecDepth 100000 in
theorem impl_areFlags.calls (a0 : Int) (r : Bool) (w : World) (h : impl_areFlags.f a0 = some r) :
    Calls Try.prog 77 #[.int .i64 a0] w fun e w' => e = .returned (.bool r) ∧ Drawn0 w w' := by
  have H : (some ((Go.bits .andNot .i64 a0 2245) == 0)) = some r := h
  clear h
  obtain rfl := Option.some.inj H
  go_enter Try.func77, Try.ntmps77
  go_wp2
  go_ret
  exact ⟨by first | rfl | (simp; done) | (simp [*]; done), by repeat (first | exact Drawn0.refl _ | apply Drawn0.step)⟩

/-! ### impl_CpuOK: function 52 -/
set_option maxHeartbeats 4000000 in
set_option maxRecDepth 100000 in
theorem impl_CpuOK.calls (x : List Int) (p q : Int) (hx : x.length = 16) (r : Bool) (w : World) (h : impl_areFlags.f q = some r) :
    Calls Try.prog 52 #[.agg (cellsI (x ++ [p, q]))] w fun e w' => e = .returned (.bool r) ∧ Below w.heap.size w w' := by
  have hu3 := Try.underlying40
  have h1 := blk_new w (.cells (cellsI (x ++ [p, q])) 40)
  have c2 := (blk_cell h1 17).trans (cpu_get17 x hx p q)
  have HB := Aside0.mk (below_alloc (Below.refl w.heap.size w) (.cells (cellsI (x ++ [p, q])) 40))
  have HL := Aside0.mk h
  clear h h1
  go_enter Try.func52, Try.ntmps52
  go_wp2_with (go_at_call 77; refine (impl_areFlags.calls q r _ HL.out).mono ?_; rintro e w1 ⟨rfl, hb⟩; have hB := Aside0.mk (below_step HB.out hb.below))
  go_ret
  exact ⟨rfl, hB.out⟩


/-! ### impl_zero: function 62 -/
def impl_zero.f (a0 : Int) (a1 : Int) : Option (Int) := if a1 = 8 then (some a0) else (if 0 ≤ (wrap64 (8 * a1)) then (some (Go.bits .and .i64 a0 (wrap64 ((shl .i64 1 (wrap64 (8 * a1))) - 1)))) else (none))
set_option maxHeartbeats 8000000 in
set_option maxRecDepth 100000 in
theorem impl_zero.calls (a0 : Int) (a1 : Int) (r : Int) (w : World) (h : impl_zero.f a0 a1 = some r) :
    Calls Try.prog 62 #[.int .i64 a0, .int .i64 a1] w fun e w' => e = .returned (.int .i64 r) ∧ Drawn0 w w' := by
  have H : (if a1 = 8 then (some a0) else (if 0 ≤ (wrap64 (8 * a1)) then (some (Go.bits .and .i64 a0 (wrap64 ((shl .i64 1 (wrap64 (8 * a1))) - 1)))) else (none))) = some r := h
  clear h
  by_cases c3 : a1 = 8
  · rw [if_pos c3] at H
    have c3b0 : (a1 == 8) = true := beq_iff_eq.mpr c3
    have c3b1 : (a1 != 8) = false := bne_eq_false_iff_eq.mpr c3
    clear c3
    obtain rfl := Option.some.inj H
    go_enter Try.func62, Try.ntmps62
    go_wp2
    go_ret
    exact ⟨by first | rfl | (simp; done) | (simp [*]; done), by repeat (first | exact Drawn0.refl _ | apply Drawn0.step)⟩
  · rw [if_neg c3] at H
    have c3b0 : (a1 == 8) = false := beq_eq_false_iff_ne.mpr c3
    have c3b1 : (a1 != 8) = true := bne_iff_ne.mpr c3
    obtain ⟨ji4, hji4⟩ : ∃ j_ : Int, (wrap64 (8 * a1)) = j_ := ⟨_, rfl⟩
    replace H : (if 0 ≤ (ji4) then (some (Go.bits .and .i64 a0 (wrap64 ((shl .i64 1 (ji4)) - 1)))) else (none)) = some r := by first | (rw [hji4] at H; exact H) | (simp only [hji4] at H ⊢; exact H)
    have hji4w : (IntKind.i64.wrap (8 * a1)) = ji4 := (i64_w _).trans hji4
    by_cases c5 : 0 ≤ (ji4)
    · rw [if_pos c5] at H
      have c5b0 := eq_true c5
      have c5b1 : decide (0 ≤ (ji4)) = true := decide_eq_true c5
      clear c5
      obtain ⟨ji6, hji6⟩ : ∃ j_ : Int, (shl .i64 1 (ji4)) = j_ := ⟨_, rfl⟩
      replace H : (some (Go.bits .and .i64 a0 (wrap64 ((ji6) - 1)))) = some r := by first | (rw [hji6] at H; exact H) | (simp only [hji6] at H ⊢; exact H)
      have hji6_ : (IntKind.i64.wrap (1 * 2 ^ min (ji4).toNat 64)) = ji6 := hji6
      have hji6z : (ji4) ≤ 64 → (IntKind.i64.wrap (1 * 2 ^ (ji4).toNat)) = ji6 := shl_small hji6
      have hji6u : (IntKind.i64.wrap (2 ^ min (ji4).toNat 64)) = ji6 := by have h_ := hji6_; rw [Int.one_mul] at h_; exact h_
      have hji6v : (ji4) ≤ 64 → (IntKind.i64.wrap (2 ^ (ji4).toNat)) = ji6 := fun hle_ => by have h_ := hji6z hle_; rw [Int.one_mul] at h_; exact h_
      have hji6y : (wrap64 (1 * 2 ^ min (ji4).toNat 64)) = ji6 := (i64_w _).symm.trans hji6_
      have hji6x : (ji4) ≤ 64 → (wrap64 (1 * 2 ^ (ji4).toNat)) = ji6 := fun h_ => (i64_w _).symm.trans (hji6z h_)
      obtain rfl := Option.some.inj H
      go_enter Try.func62, Try.ntmps62
      go_wp2
      go_ret
      exact ⟨by first | rfl | (simp; done) | (simp only [← hji4, ← hji6] <;> (first | rfl | simp)) | (simp [*]; done), by repeat (first | exact Drawn0.refl _ | apply Drawn0.step)⟩
    · rw [if_neg c5] at H
      exact absurd H (by simp)

/-! ### impl_Cpu_get: function 53 -/
theorem cpu_get (x : List Int) (hx : x.length = 16) (a b : Int) (i : Nat) (hi : i < 16) : (cellsI (x ++ [a, b]))[i]? = some (.int .i64 (rdOf 0 x i)) := by
  simp only [cellsI, rdOf, List.getElem?_toArray, List.map_append]
  rw [List.getElem?_append_left (by simpa using (by omega : i < x.length)), List.getElem?_map, List.getElem?_eq_getElem (by omega)]
  simp [List.getElem?_eq_getElem (show i < x.length by omega)]
def impl_Cpu_get.f (x : List Int) (a1 a2 : Int) : Option Int :=
  if 0 ≤ a1 then (if a1 < 16 then impl_zero.f (rdOf 0 x a1) a2 else if a1 < 20 then impl_zero.f (shr .i64 (rdOf 0 x (a1 - 16)) 8) 1 else none) else none
theorem impl_isHigh.low (a : Int) (h : a < 16) : impl_isHigh.f a = some false := by
  unfold impl_isHigh.f impl_within.f
  rw [if_neg (by omega)]; rfl
theorem impl_isHigh.high (a : Int) (h : 16 ≤ a) (h2 : a < 20) : impl_isHigh.f a = some true := by
  unfold impl_isHigh.f impl_within.f
  rw [if_pos (by omega), decide_eq_true (by omega)]; rfl
set_option maxHeartbeats 4000000 in
set_option maxRecDepth 100000 in
theorem impl_Cpu_get.calls (x : List Int) (p q : Int) (hx : x.length = 16) (a1 a2 r : Int) (g : Nat) (w : World) (hg : w.heap[g]? = some (.cells (cellsI (x ++ [p, q])) 40 (0, 0))) (h : impl_Cpu_get.f x a1 a2 = some r) :
    Calls Try.prog 53 #[.pointer (some ⟨g, 0, none⟩), .int .i64 a1, .int .i64 a2] w fun e w' => e = .returned (.int .i64 r) ∧ Below w.heap.size w w' := by
  have hu3 := Try.underlying40
  have hu4 := Try.underlying35
  have HB := Aside0.mk hg
  clear hg
  unfold impl_Cpu_get.f at h
  by_cases c0 : 0 ≤ a1
  · rw [if_pos c0] at h
    by_cases c1 : a1 < 16
    · rw [if_pos c1] at h
      obtain ⟨i, rfl⟩ := Int.eq_ofNat_of_zero_le c0
      have HZ := Aside0.mk h
      have HI := Aside0.mk (impl_isHigh.low _ c1)
      have HG := Aside0.mk (cpu_get x hx p q i (by omega))
      clear h
      go_enter Try.func53, Try.ntmps53
      go_wp2_with (first | (go_at_call 72; refine (impl_isHigh.calls _ _ _ HI.out).mono ?_; rintro e w1 ⟨rfl, hb⟩; have hL := Aside0.mk hb.below; have c2 := (blk_cell (blk_below HB.out hb.below) i).trans HG.out; clear hb) | (go_at_call 62; refine (impl_zero.calls _ _ r _ HZ.out).mono ?_; rintro e w2 ⟨rfl, hb⟩; have hB := Aside0.mk (below_step hL.out hb.below)))
      go_ret
      exact ⟨rfl, hB.out⟩
    · rw [if_neg c1] at h
      by_cases c3 : a1 < 20
      · rw [if_pos c3] at h
        obtain ⟨i, rfl⟩ : ∃ i : Nat, a1 = (i : Int) + 16 := ⟨(a1 - 16).toNat, by omega⟩
        have i1 : (i : Int) < 16 := by omega
        rw [show (i : Int) + 16 - 16 = i by omega] at h
        have HZ := Aside0.mk h
        have HI := Aside0.mk (impl_isHigh.high _ (by omega) c3)
        have HG := Aside0.mk (cpu_get x hx p q i (by omega))
        have d2 : (i : Int) + 16 - 16 = (i : Int) := by omega
        clear h
        go_enter Try.func53, Try.ntmps53
        go_wp2_with (first | (go_at_call 72; refine (impl_isHigh.calls _ _ _ HI.out).mono ?_; rintro e w1 ⟨rfl, hb⟩; have hL := Aside0.mk hb.below; have c2 := (blk_cell (blk_below HB.out hb.below) i).trans HG.out; clear hb) | (go_at_call 62; refine (impl_zero.calls _ _ r _ HZ.out).mono ?_; rintro e w2 ⟨rfl, hb⟩; have hB := Aside0.mk (below_step hL.out hb.below)))
        go_ret
        exact ⟨rfl, hB.out⟩
      · rw [if_neg c3] at h; cases h
  · rw [if_neg c0] at h; cases h


/-! ### impl_GetReg: function 17 -/
def impl_GetReg.f (x : List Int) (q a1 a2 : Int) : Option (Int × Int) :=
  (impl_areFlags.f q).bind fun b => if b = true then ((impl_isReg.f a1 a2).bind fun c => if c = true then ((impl_Cpu_get.f x a1 a2).bind fun v => some (v, 0)) else some (0, 4)) else some (0, 1)
set_option maxHeartbeats 4000000 in
set_option maxRecDepth 100000 in
theorem impl_GetReg.calls (x : List Int) (p q : Int) (hx : x.length = 16) (a1 a2 r1 r2 : Int) (w : World) (h : impl_GetReg.f x q a1 a2 = some (r1, r2)) :
    Calls Try.prog 17 #[.agg (cellsI (x ++ [p, q])), .int .i64 a1, .int .i64 a2] w fun e w' => e = .returned (.tuple #[.int .i64 r1, .int .i64 r2]) ∧ Below w.heap.size w w' := by
  have hu3 := Try.underlying40
  have hz : Aside0 ((Try.prog.info? 40).map (·.size) = some (cellsI (x ++ [p, q])).size) := ⟨by rw [cpu_size x hx]; kernel_rfl⟩
  have HB := Aside0.mk (blk_new w (.cells (cellsI (x ++ [p, q])) 40))
  have HL := Aside0.mk (below_alloc (Below.refl w.heap.size w) (.cells (cellsI (x ++ [p, q])) 40))
  unfold impl_GetReg.f at h
  obtain ⟨b, h1, h⟩ := Option.bind_eq_some_iff.mp h
  have H1 := Aside0.mk h1
  clear h1
  cases b with
  | false =>
    rw [if_neg (by simp)] at h
    obtain ⟨rfl, rfl⟩ : 0 = r1 ∧ 1 = r2 := by simpa using h
    clear h
    go_enter Try.func17, Try.ntmps17
    go_wp2_with (first | (refine wpList_load_row rfl 40 _ rfl w.heap.size rfl 40 (cellsI (x ++ [p, q])) (0, 0) _ HB.out hu3 rfl hz.out ?_) | (go_at_call 52; refine (impl_CpuOK.calls x p q hx _ _ H1.out).mono ?_; rintro e w1 ⟨rfl, hb⟩; replace HB := Aside0.mk (blk_below HB.out hb); replace HL := Aside0.mk (below_step HL.out hb); clear hb))
    go_ret2
    exact ⟨rfl, HL.out⟩
  | true =>
    rw [if_pos rfl] at h
    obtain ⟨c, h2, h⟩ := Option.bind_eq_some_iff.mp h
    have H2 := Aside0.mk h2
    clear h2
    cases c with
    | false =>
      rw [if_neg (by simp)] at h
      obtain ⟨rfl, rfl⟩ : 0 = r1 ∧ 4 = r2 := by simpa using h
      clear h
      go_enter Try.func17, Try.ntmps17
      go_wp2_with (first | (refine wpList_load_row rfl 40 _ rfl w.heap.size rfl 40 (cellsI (x ++ [p, q])) (0, 0) _ HB.out hu3 rfl hz.out ?_) | (go_at_call 52; refine (impl_CpuOK.calls x p q hx _ _ H1.out).mono ?_; rintro e w1 ⟨rfl, hb⟩; replace HB := Aside0.mk (blk_below HB.out hb); replace HL := Aside0.mk (below_step HL.out hb); clear hb) | (go_at_call 45; refine (impl_isReg.calls _ _ _ _ H2.out).mono ?_; rintro e w1 ⟨rfl, hb⟩; replace HB := Aside0.mk (blk_below HB.out hb.below); replace HL := Aside0.mk (below_step HL.out hb.below); clear hb))
      go_ret2
      exact ⟨rfl, HL.out⟩
    | true =>
      rw [if_pos rfl] at h
      obtain ⟨v, h3, h⟩ := Option.bind_eq_some_iff.mp h
      obtain ⟨rfl, rfl⟩ : v = r1 ∧ 0 = r2 := by simpa using h
      have H3 := Aside0.mk h3
      clear h h3
      go_enter Try.func17, Try.ntmps17
      go_wp2_with (first | (refine wpList_load_row rfl 40 _ rfl w.heap.size rfl 40 (cellsI (x ++ [p, q])) (0, 0) _ HB.out hu3 rfl hz.out ?_) | (go_at_call 52; refine (impl_CpuOK.calls x p q hx _ _ H1.out).mono ?_; rintro e w1 ⟨rfl, hb⟩; replace HB := Aside0.mk (blk_below HB.out hb); replace HL := Aside0.mk (below_step HL.out hb); clear hb) | (go_at_call 45; refine (impl_isReg.calls _ _ _ _ H2.out).mono ?_; rintro e w1 ⟨rfl, hb⟩; replace HB := Aside0.mk (blk_below HB.out hb.below); replace HL := Aside0.mk (below_step HL.out hb.below); clear hb) | (go_at_call 53; refine (impl_Cpu_get.calls x p q hx _ _ _ _ _ HB.out H3.out).mono ?_; rintro e w1 ⟨rfl, hb⟩; replace HB := Aside0.mk (blk_below HB.out hb); replace HL := Aside0.mk (below_step HL.out hb); clear hb))
      go_ret2
      exact ⟨rfl, HL.out⟩


/-! ### spec_l06Flags: function 75 -/
def spec_l06Flags.f (a0 : Int) : Option (Bool) := if a0 ≥ 0 then (some ((Go.bits .and .i64 a0 2245) == a0)) else (some false)
set_option maxHeartbeats 8000000 in
set_option maxRecDepth 100000 in
theorem spec_l06Flags.calls (a0 : Int) (r : Bool) (w : World) (h : spec_l06Flags.f a0 = some r) :
    Calls Try.prog 75 #[.int .i64 a0] w fun e w' => e = .returned (.bool r) ∧ Drawn0 w w' := by
  have H : (if a0 ≥ 0 then (some ((Go.bits .and .i64 a0 2245) == a0)) else (some false)) = some r := h
  clear h
  by_cases c2 : a0 ≥ 0
  · rw [if_pos c2] at H
    have c2b0 : decide (0 ≤ a0) = true := decide_eq_true c2
    clear c2
    obtain rfl := Option.some.inj H
    go_enter Try.func75, Try.ntmps75
    go_wp2
    go_ret
    exact ⟨by first | rfl | (simp; done) | (simp [*]; done), by repeat (first | exact Drawn0.refl _ | apply Drawn0.step)⟩
  · rw [if_neg c2] at H
    have c2b0 : decide (0 ≤ a0) = false := decide_eq_false c2
    clear c2
    obtain rfl := Option.some.inj H
    go_enter Try.func75, Try.ntmps75
    go_wp2
    go_ret
    exact ⟨by first | rfl | (simp; done) | (simp [*]; done), by repeat (first | exact Drawn0.refl _ | apply Drawn0.step)⟩

/-! ### spec_CpuOK: function 48 -/
set_option maxHeartbeats 4000000 in
set_option maxRecDepth 100000 in
theorem spec_CpuOK.calls (x : List Int) (p q : Int) (hx : x.length = 16) (r : Bool) (w : World) (h : spec_l06Flags.f q = some r) :
    Calls Try.prog 48 #[.agg (cellsI (x ++ [p, q]))] w fun e w' => e = .returned (.bool r) ∧ Below w.heap.size w w' := by
  have hu3 := Try.underlying40
  have h1 := blk_new w (.cells (cellsI (x ++ [p, q])) 40)
  have c2 := (blk_cell h1 17).trans (cpu_get17 x hx p q)
  have HB := Aside0.mk (below_alloc (Below.refl w.heap.size w) (.cells (cellsI (x ++ [p, q])) 40))
  have HL := Aside0.mk h
  clear h h1
  go_enter Try.func48, Try.ntmps48
  go_wp2_with (go_at_call 75; refine (spec_l06Flags.calls q r _ HL.out).mono ?_; rintro e w1 ⟨rfl, hb⟩; have hB := Aside0.mk (below_step HB.out hb.below))
  go_ret
  exact ⟨rfl, hB.out⟩


/-! ### spec_l01Size: function 41 -/
def spec_l01Size.f (a0 : Int) : Option (Bool) := if a0 = 1 then (some true) else (if a0 = 2 then (some true) else (if a0 = 4 then (some true) else (some (a0 == 8))))
set_option maxHeartbeats 8000000 in
set_option maxRecDepth 100000 in
theorem spec_l01Size.calls (a0 : Int) (r : Bool) (w : World) (h : spec_l01Size.f a0 = some r) :
    Calls Try.prog 41 #[.int .i64 a0] w fun e w' => e = .returned (.bool r) ∧ Drawn0 w w' := by
  have H : (if a0 = 1 then (some true) else (if a0 = 2 then (some true) else (if a0 = 4 then (some true) else (some (a0 == 8))))) = some r := h
  clear h
  by_cases c2 : a0 = 1
  · rw [if_pos c2] at H
    have c2b0 : (a0 == 1) = true := beq_iff_eq.mpr c2
    have c2b1 : (a0 != 1) = false := bne_eq_false_iff_eq.mpr c2
    clear c2
    obtain rfl := Option.some.inj H
    go_enter Try.func41, Try.ntmps41
    go_wp2
    go_ret
    exact ⟨by first | rfl | (simp; done) | (simp [*]; done), by repeat (first | exact Drawn0.refl _ | apply Drawn0.step)⟩
  · rw [if_neg c2] at H
    have c2b0 : (a0 == 1) = false := beq_eq_false_iff_ne.mpr c2
    have c2b1 : (a0 != 1) = true := bne_iff_ne.mpr c2
    by_cases c3 : a0 = 2
    · rw [if_pos c3] at H
      have c3b0 : (a0 == 2) = true := beq_iff_eq.mpr c3
      have c3b1 : (a0 != 2) = false := bne_eq_false_iff_eq.mpr c3
      clear c3
      obtain rfl := Option.some.inj H
      go_enter Try.func41, Try.ntmps41
      go_wp2
      go_ret
      exact ⟨by first | rfl | (simp; done) | (simp [*]; done), by repeat (first | exact Drawn0.refl _ | apply Drawn0.step)⟩
    · rw [if_neg c3] at H
      have c3b0 : (a0 == 2) = false := beq_eq_false_iff_ne.mpr c3
      have c3b1 : (a0 != 2) = true := bne_iff_ne.mpr c3
      by_cases c4 : a0 = 4
      · rw [if_pos c4] at H
        have c4b0 : (a0 == 4) = true := beq_iff_eq.mpr c4
        have c4b1 : (a0 != 4) = false := bne_eq_false_iff_eq.mpr c4
        clear c4
        obtain rfl := Option.some.inj H
        go_enter Try.func41, Try.ntmps41
        go_wp2
        go_ret
        exact ⟨by first | rfl | (simp; done) | (simp [*]; done), by repeat (first | exact Drawn0.refl _ | apply Drawn0.step)⟩
      · rw [if_neg c4] at H
        have c4b0 : (a0 == 4) = false := beq_eq_false_iff_ne.mpr c4
        have c4b1 : (a0 != 4) = true := bne_iff_ne.mpr c4
        obtain rfl := Option.some.inj H
        go_enter Try.func41, Try.ntmps41
        go_wp2
        go_ret
        exact ⟨by first | rfl | (simp; done) | (simp [*]; done), by repeat (first | exact Drawn0.refl _ | apply Drawn0.step)⟩

/-! ### spec_l01In: function 64 -/
def spec_l01In.f (a0 : Int) (a1 : Int) (a2 : Int) : Option (Bool) := if a0 ≥ a1 then (some (decide (a0 ≤ a2))) else (some false)
set_option maxHeartbeats 8000000 in
set_option maxRecDepth 100000 in
theorem spec_l01In.calls (a0 : Int) (a1 : Int) (a2 : Int) (r : Bool) (w : World) (h : spec_l01In.f a0 a1 a2 = some r) :
    Calls Try.prog 64 #[.int .i64 a0, .int .i64 a1, .int .i64 a2] w fun e w' => e = .returned (.bool r) ∧ Drawn0 w w' := by
  have H : (if a0 ≥ a1 then (some (decide (a0 ≤ a2))) else (some false)) = some r := h
  clear h
  by_cases c4 : a0 ≥ a1
  · rw [if_pos c4] at H
    have c4b0 : decide (a1 ≤ a0) = true := decide_eq_true c4
    clear c4
    obtain rfl := Option.some.inj H
    go_enter Try.func64, Try.ntmps64
    go_wp2
    go_ret
    exact ⟨by first | rfl | (simp; done) | (simp [*]; done), by repeat (first | exact Drawn0.refl _ | apply Drawn0.step)⟩
  · rw [if_neg c4] at H
    have c4b0 : decide (a1 ≤ a0) = false := decide_eq_false c4
    clear c4
    obtain rfl := Option.some.inj H
    go_enter Try.func64, Try.ntmps64
    go_wp2
    go_ret
    exact ⟨by first | rfl | (simp; done) | (simp [*]; done), by repeat (first | exact Drawn0.refl _ | apply Drawn0.step)⟩

/-! ### spec_l07RegOK: function 49 -/
def spec_l07RegOK.f (a0 : Int) (a1 : Int) : Option (Bool) := (spec_l01Size.f a1).bind fun t105 => (if t105 = true then ((spec_l01In.f a0 0 15).bind fun t106 => (if t106 = true then (some true) else (if a1 = 1 then ((spec_l01In.f a0 16 19).bind fun t107 => (some t107)) else (some false)))) else (some false))
set_option maxHeartbeats 8000000 in
set_option maxRecDepth 100000 in
theorem spec_l07RegOK.calls (a0 : Int) (a1 : Int) (r : Bool) (w : World) (h : spec_l07RegOK.f a0 a1 = some r) :
    Calls Try.prog 49 #[.int .i64 a0, .int .i64 a1] w fun e w' => e = .returned (.bool r) ∧ Drawn0 w w' := by
  have H : ((spec_l01Size.f a1).bind fun t105 => (if t105 = true then ((spec_l01In.f a0 0 15).bind fun t106 => (if t106 = true then (some true) else (if a1 = 1 then ((spec_l01In.f a0 16 19).bind fun t107 => (some t107)) else (some false)))) else (some false))) = some r := h
  clear h
  replace H := Option.bind_eq_some_iff.mp H
  obtain ⟨t105, A30, H⟩ := H
  replace H : (if t105 = true then ((spec_l01In.f a0 0 15).bind fun t106 => (if t106 = true then (some true) else (if a1 = 1 then ((spec_l01In.f a0 16 19).bind fun t107 => (some t107)) else (some false)))) else (some false)) = some r := H
  have A3 := Aside0.mk A30
  clear A30
  by_cases c4 : t105 = true
  · subst c4
    have H1 : ((spec_l01In.f a0 0 15).bind fun t106 => (if t106 = true then (some true) else (if a1 = 1 then ((spec_l01In.f a0 16 19).bind fun t107 => (some t107)) else (some false)))) = some r := by rw [if_pos rfl] at H; exact H
    clear H
    have H := H1
    clear H1
    replace H := Option.bind_eq_some_iff.mp H
    obtain ⟨t106, A50, H⟩ := H
    replace H : (if t106 = true then (some true) else (if a1 = 1 then ((spec_l01In.f a0 16 19).bind fun t107 => (some t107)) else (some false))) = some r := H
    have A5 := Aside0.mk A50
    clear A50
    by_cases c6 : t106 = true
    · subst c6
      have H1 : (some true) = some r := by rw [if_pos rfl] at H; exact H
      clear H
      have H := H1
      clear H1
      obtain rfl := Option.some.inj H
      go_enter Try.func49, Try.ntmps49
      go_wp2_with (first | ((with_reducible refine gate_callee (f := 41) rfl ?_); refine goesL_ (some 6) rfl rfl Try.func41 (by kernel_rfl) rfl #[.int .i64 a1] rfl (by (try simp only [List.map_toArray, List.map_cons, List.map_nil]); first | done | rfl | (simp only [List.length_drop, List.length_take]; rfl)) ?_; (with_reducible refine (spec_l01Size.calls a1 true _ A3.out).mono ?_); rintro e w' ⟨rfl, ⟨nd, rfl⟩⟩; refine ⟨_, rfl, ?_⟩) | (go_at_call 64; (with_reducible refine (spec_l01In.calls a0 0 15 true _ A5.out).mono ?_); rintro e w' ⟨rfl, ⟨nd, rfl⟩⟩))
      go_ret
      exact ⟨by first | rfl | (simp; done) | (simp [*]; done), by repeat (first | exact Drawn0.refl _ | apply Drawn0.step)⟩
    · replace c6 := Bool.eq_false_iff.mpr c6
      subst c6
      have H1 : (if a1 = 1 then ((spec_l01In.f a0 16 19).bind fun t107 => (some t107)) else (some false)) = some r := by rw [if_neg (show ¬ (false = true) by decide)] at H; exact H
      clear H
      have H := H1
      clear H1
      by_cases c7 : a1 = 1
      · rw [if_pos c7] at H
        have c7b0 : (a1 == 1) = true := beq_iff_eq.mpr c7
        have c7b1 : (a1 != 1) = false := bne_eq_false_iff_eq.mpr c7
        clear c7
        replace H := Option.bind_eq_some_iff.mp H
        obtain ⟨t107, A80, H⟩ := H
        replace H : (some t107) = some r := H
        have A8 := Aside0.mk A80
        clear A80
        obtain rfl := Option.some.inj H
        go_enter Try.func49, Try.ntmps49
        go_wp2_with (first | ((with_reducible refine gate_callee (f := 41) rfl ?_); refine goesL_ (some 6) rfl rfl Try.func41 (by kernel_rfl) rfl #[.int .i64 a1] rfl (by (try simp only [List.map_toArray, List.map_cons, List.map_nil]); first | done | rfl | (simp only [List.length_drop, List.length_take]; rfl)) ?_; (with_reducible refine (spec_l01Size.calls a1 true _ A3.out).mono ?_); rintro e w' ⟨rfl, ⟨nd, rfl⟩⟩; refine ⟨_, rfl, ?_⟩) | (go_at_call 64; (with_reducible refine (spec_l01In.calls a0 0 15 false _ A5.out).mono ?_); rintro e w' ⟨rfl, ⟨nd, rfl⟩⟩) | (go_at_call 64; (with_reducible refine (spec_l01In.calls a0 16 19 t107 _ A8.out).mono ?_); rintro e w' ⟨rfl, ⟨nd, rfl⟩⟩))
        go_ret
        exact ⟨by first | rfl | (simp; done) | (simp [*]; done), by repeat (first | exact Drawn0.refl _ | apply Drawn0.step)⟩
      · rw [if_neg c7] at H
        have c7b0 : (a1 == 1) = false := beq_eq_false_iff_ne.mpr c7
        have c7b1 : (a1 != 1) = true := bne_iff_ne.mpr c7
        obtain rfl := Option.some.inj H
        go_enter Try.func49, Try.ntmps49
        go_wp2_with (first | ((with_reducible refine gate_callee (f := 41) rfl ?_); refine goesL_ (some 6) rfl rfl Try.func41 (by kernel_rfl) rfl #[.int .i64 a1] rfl (by (try simp only [List.map_toArray, List.map_cons, List.map_nil]); first | done | rfl | (simp only [List.length_drop, List.length_take]; rfl)) ?_; (with_reducible refine (spec_l01Size.calls a1 true _ A3.out).mono ?_); rintro e w' ⟨rfl, ⟨nd, rfl⟩⟩; refine ⟨_, rfl, ?_⟩) | (go_at_call 64; (with_reducible refine (spec_l01In.calls a0 0 15 false _ A5.out).mono ?_); rintro e w' ⟨rfl, ⟨nd, rfl⟩⟩))
        go_ret
        exact ⟨by first | rfl | (simp; done) | (simp [*]; done), by repeat (first | exact Drawn0.refl _ | apply Drawn0.step)⟩
  · replace c4 := Bool.eq_false_iff.mpr c4
    subst c4
    have H1 : (some false) = some r := by rw [if_neg (show ¬ (false = true) by decide)] at H; exact H
    clear H
    have H := H1
    clear H1
    obtain rfl := Option.some.inj H
    go_enter Try.func49, Try.ntmps49
    go_wp2_with (first | ((with_reducible refine gate_callee (f := 41) rfl ?_); refine goesL_ (some 6) rfl rfl Try.func41 (by kernel_rfl) rfl #[.int .i64 a1] rfl (by (try simp only [List.map_toArray, List.map_cons, List.map_nil]); first | done | rfl | (simp only [List.length_drop, List.length_take]; rfl)) ?_; (with_reducible refine (spec_l01Size.calls a1 false _ A3.out).mono ?_); rintro e w' ⟨rfl, ⟨nd, rfl⟩⟩; refine ⟨_, rfl, ?_⟩))
    go_ret
    exact ⟨by first | rfl | (simp; done) | (simp [*]; done), by repeat (first | exact Drawn0.refl _ | apply Drawn0.step)⟩

/-! ### spec_l01Bit: function 92 -/
def spec_l01Bit.f (a0 : Int) (a1 : Int) : Option (Int) := if 0 ≤ (IntKind.u64.wrap (a1)) then (if (Int.tmod (shr .u64 (IntKind.u64.wrap (a0)) (IntKind.u64.wrap (a1))) 2) = 1 then (some 1) else (some 0)) else (none)
set_option maxHeartbeats 8000000 in
set_option maxRecDepth 100000 in
theorem spec_l01Bit.calls (a0 : Int) (a1 : Int) (r : Int) (w : World) (h : spec_l01Bit.f a0 a1 = some r) :
    Calls Try.prog 92 #[.int .i64 a0, .int .i64 a1] w fun e w' => e = .returned (.int .i64 r) ∧ Drawn0 w w' := by
  have H : (if 0 ≤ (IntKind.u64.wrap (a1)) then (if (Int.tmod (shr .u64 (IntKind.u64.wrap (a0)) (IntKind.u64.wrap (a1))) 2) = 1 then (some 1) else (some 0)) else (none)) = some r := h
  clear h
  obtain ⟨ji3, hji3⟩ : ∃ j_ : Int, (IntKind.u64.wrap (a1)) = j_ := ⟨_, rfl⟩
  replace H : (if 0 ≤ (ji3) then (if (Int.tmod (shr .u64 (IntKind.u64.wrap (a0)) (ji3)) 2) = 1 then (some 1) else (some 0)) else (none)) = some r := by first | (rw [hji3] at H; exact H) | (simp only [hji3] at H ⊢; exact H)
  by_cases c4 : 0 ≤ (ji3)
  · rw [if_pos c4] at H
    have c4b0 := eq_true c4
    have c4b1 : decide (0 ≤ (ji3)) = true := decide_eq_true c4
    clear c4
    obtain ⟨ji5, hji5⟩ : ∃ j_ : Int, (shr .u64 (IntKind.u64.wrap (a0)) (ji3)) = j_ := ⟨_, rfl⟩
    replace H : (if (Int.tmod (ji5) 2) = 1 then (some 1) else (some 0)) = some r := by first | (rw [hji5] at H; exact H) | (simp only [hji5] at H ⊢; exact H)
    have hji5_ : ((IntKind.u64.wrap (a0)) / 2 ^ min (ji3).toNat 64) = ji5 := hji5
    have hji5z : (ji3) ≤ 64 → ((IntKind.u64.wrap (a0)) / 2 ^ (ji3).toNat) = ji5 := shr_small hji5
    by_cases c6 : (Int.tmod (ji5) 2) = 1
    · rw [if_pos c6] at H
      have c6b0 : ((Int.tmod (ji5) 2) == 1) = true := beq_iff_eq.mpr c6
      have c6b1 : ((Int.tmod (ji5) 2) != 1) = false := bne_eq_false_iff_eq.mpr c6
      clear c6
      obtain rfl := Option.some.inj H
      go_enter Try.func92, Try.ntmps92
      go_wp2
      go_ret
      exact ⟨by first | rfl | (simp; done) | (simp only [← hji3, ← hji5] <;> (first | rfl | simp)) | (simp [*]; done), by repeat (first | exact Drawn0.refl _ | apply Drawn0.step)⟩
    · rw [if_neg c6] at H
      have c6b0 : ((Int.tmod (ji5) 2) == 1) = false := beq_eq_false_iff_ne.mpr c6
      have c6b1 : ((Int.tmod (ji5) 2) != 1) = true := bne_iff_ne.mpr c6
      obtain rfl := Option.some.inj H
      go_enter Try.func92, Try.ntmps92
      go_wp2
      go_ret
      exact ⟨by first | rfl | (simp; done) | (simp only [← hji3, ← hji5] <;> (first | rfl | simp)) | (simp [*]; done), by repeat (first | exact Drawn0.refl _ | apply Drawn0.step)⟩
  · rw [if_neg c4] at H
    exact absurd H (by simp)

/-! ### spec_l01Zero: function 76 -/
def spec_l01Zero.l0 : Nat → Int → Int → Int → Option (Int)
  | 0, _, _, _ => none
  | k + 1, x0, x5, x6 => if x6 ≥ 0 then ((spec_l01Bit.f x0 x6).bind fun t108 => (spec_l01Zero.l0 k x0 (IntKind.u64.wrap ((IntKind.u64.wrap (2 * x5)) + (IntKind.u64.wrap (t108)))) (wrap64 (x6 - 1)))) else (some (wrap64 (x5)))
def spec_l01Zero.f (k : Nat) (a0 : Int) (a1 : Int) : Option (Int) := spec_l01Zero.l0 k a0 0 (wrap64 ((wrap64 (8 * a1)) - 1))
theorem spec_l01Zero.mono_l : ∀ k, (∀ y0 y1 y2, LeO (spec_l01Zero.l0 k y0 y1 y2) (spec_l01Zero.l0 (k + 1) y0 y1 y2))
  | 0 => fun _ _ _ r h => by simp [spec_l01Zero.l0] at h
  | k + 1 => by
    have ih0 := spec_l01Zero.mono_l k
    · intro y0 y1 y2
      unfold spec_l01Zero.l0
      repeat' first
      | (with_reducible exact ih0 _ _ _)
      | (with_reducible exact LeO.refl _)
      | (with_reducible exact LeO.none _)
      | (with_reducible refine LeO.ite ?_ ?_)
      | (with_reducible refine LeO.bind ?_ (fun _ => ?_))
      | exact ih0 _ _ _
      | exact LeO.none _
      | refine LeO.ite ?_ ?_
      | refine LeO.bind ?_ (fun _ => ?_)
theorem spec_l01Zero.mono : ∀ a0 a1 k, LeO (spec_l01Zero.f k a0 a1) (spec_l01Zero.f (k + 1) a0 a1) := by
  intro a0 a1 k
  have ih0 := spec_l01Zero.mono_l k
  unfold spec_l01Zero.f
  repeat' first
      | (with_reducible exact ih0 _ _ _)
      | (with_reducible exact LeO.refl _)
      | (with_reducible exact LeO.none _)
      | (with_reducible refine LeO.ite ?_ ?_)
      | (with_reducible refine LeO.bind ?_ (fun _ => ?_))
      | exact ih0 _ _ _
      | exact LeO.none _
      | refine LeO.ite ?_ ?_
      | refine LeO.bind ?_ (fun _ => ?_)
set_option maxHeartbeats 8000000 in
set_option maxRecDepth 100000 in
theorem spec_l01Zero.calls (k : Nat) (a0 : Int) (a1 : Int) (r : Int) (w : World) (h : spec_l01Zero.f k a0 a1 = some r) :
    Calls Try.prog 76 #[.int .i64 a0, .int .i64 a1] w fun e w' => e = .returned (.int .i64 r) ∧ Drawn0 w w' := by
  have H : (spec_l01Zero.l0 k a0 0 (wrap64 ((wrap64 (8 * a1)) - 1))) = some r := h
  clear h
  have H' := Aside0.mk H
  clear H
  go_enter Try.func76, Try.ntmps76
  go_wp2
  go_loopg [5, 6] k (fun kq v5 v6 w' => ∃ (x5_1 : Int) (x6_1 : Int), v5 = .int .u64 x5_1 ∧ v6 = .int .i64 x6_1 ∧ Aside0 (spec_l01Zero.l0 kq a0 x5_1 x6_1 = some r) ∧ Aside0 (kq ≤ k) ∧ Drawn0 w w')
  case atStart => exact ⟨(0), (wrap64 ((wrap64 (8 * a1)) - 1)), (by first | rfl | (simp; done) | (simp [*]; done)), (by first | rfl | (simp; done) | (simp [*]; done)), H', ⟨Nat.le_refl _⟩, by repeat (first | exact Drawn0.refl _ | apply Drawn0.step)⟩
  case round =>
    clear H'
    try clear p2
    obtain ⟨x5_1, x6_1, rfl, rfl, HA, HK1, ⟨m1, rfl⟩⟩ := hrel
    cases gk with
    | zero => exact absurd HA.out (by simp [spec_l01Zero.l0])
    | succ k1 =>
      have H := HA.out
      clear HA
      simp only [spec_l01Zero.l0] at H
      by_cases c3 : x6_1 ≥ 0
      · rw [if_pos c3] at H
        have c3b0 : decide (0 ≤ x6_1) = true := decide_eq_true c3
        clear c3
        replace H := Option.bind_eq_some_iff.mp H
        obtain ⟨t108, A40, H⟩ := H
        replace H : (spec_l01Zero.l0 k1 a0 (IntKind.u64.wrap ((IntKind.u64.wrap (2 * x5_1)) + (IntKind.u64.wrap (t108)))) (wrap64 (x6_1 - 1))) = some r := H
        have A4 := Aside0.mk A40
        clear A40
        have H' := Aside0.mk H
        clear H
        go_wp2_with (first | ((with_reducible refine gate_callee (f := 92) rfl ?_); refine goesL_ (some 18) rfl rfl Try.func92 (by kernel_rfl) rfl #[.int .i64 a0, .int .i64 x6_1] rfl (by (try simp only [List.map_toArray, List.map_cons, List.map_nil]); first | done | rfl | (simp only [List.length_drop, List.length_take]; rfl)) ?_; (with_reducible refine (spec_l01Bit.calls a0 x6_1 t108 _ A4.out).mono ?_); rintro e w' ⟨rfl, ⟨nd, rfl⟩⟩; refine ⟨_, rfl, ?_⟩))
        go_roundg k1
        case measure => have := HK1.out; omega
        case rel => exact ⟨(IntKind.u64.wrap ((IntKind.u64.wrap (2 * x5_1)) + (IntKind.u64.wrap (t108)))), (wrap64 (x6_1 - 1)), (by first | rfl | (simp; done) | (simp [*]; done)), (by first | rfl | (simp; done) | (simp [*]; done)), H', ⟨by have := HK1.out; omega⟩, by repeat (first | exact Drawn0.refl _ | apply Drawn0.step)⟩
      · rw [if_neg c3] at H
        have c3b0 : decide (0 ≤ x6_1) = false := decide_eq_false c3
        clear c3
        obtain rfl := Option.some.inj H
        go_wp2
        go_ret
        exact ⟨by first | rfl | (simp; done) | (simp [*]; done), by repeat (first | exact Drawn0.refl _ | apply Drawn0.step)⟩

/-! ### spec_l07Set: function 56 -/
structure SetHolds (w W : World) (T : TypeId) (o z : List Int) : Prop where
  b1 : W.heap[w.heap.size]? = some (.cells (cellsI o) T (0, 0))
  b2 : W.heap[w.heap.size + 1]? = some (.cells (cellsI z) T (0, 0))
  bel : Below w.heap.size w W
theorem SetHolds.start (w : World) (T : TypeId) (o z : List Int) : SetHolds w ((w.alloc (.cells (cellsI o) T)).alloc (.cells (cellsI z) T)) T o z := by
  have h1 := blk_below (blk_new w (.cells (cellsI o) T)) (below_alloc (Below.refl _ _) (.cells (cellsI z) T))
  have h2 := blk_new (w.alloc (.cells (cellsI o) T)) (.cells (cellsI z) T)
  rw [World.size_alloc] at h2
  exact ⟨h1, h2, below_alloc (below_alloc (Below.refl _ _) _) _⟩
theorem SetHolds.below {w W W1 : World} {T : TypeId} {o z : List Int} (h : SetHolds w W T o z) (hb : Below W.heap.size W W1) : SetHolds w W1 T o z :=
  ⟨blk_below h.b1 hb, blk_below h.b2 hb, below_step h.bel hb⟩
theorem SetHolds.step {w W : World} {T : TypeId} {o z : List Int} (h : SetHolds w W T o z) (i : Nat) (n : Int) : SetHolds w (W.setCell ⟨w.heap.size, i, none⟩ (.int .i64 n)) T (o.set i n) z :=
  ⟨blk_put h.b1 i _ (cellsI_put o i n), blk_far h.b2 (show w.heap.size + 1 ≠ w.heap.size by omega) _, below_set h.bel (Nat.le_refl _)⟩
theorem SetHolds.row {w W : World} {T : TypeId} {o z : List Int} (h : SetHolds w W T o z) (v : List Int) : SetHolds w (W.setRow (w.heap.size + 1) (cellsI v)) T o v :=
  ⟨(setRow_other _ _ _ _ (by omega)).trans h.b1, setRow_heap _ _ _ _ _ _ h.b2, belowRow h.bel (Nat.le_succ _) _⟩
theorem cpu_set (x : List Int) (hx : x.length = 16) (a b n : Int) (i : Nat) (hi : i < 16) : (x ++ [a, b]).set i n = x.set i n ++ [a, b] := by
  rw [List.set_append_left _ _ (by omega)]
set_option maxHeartbeats 4000000 in
set_option maxRecDepth 100000 in
theorem spec_l07Set.big (k : Nat) (x : List Int) (p q : Int) (hx : x.length = 16) (i : Nat) (hi : i < 16) (a2 v z : Int) (hs : 4 ≤ a2) (w : World) (h : spec_l01Zero.f k v a2 = some z) :
    Calls Try.prog 56 #[.agg (cellsI (x ++ [p, q])), .int .i64 (i), .int .i64 a2, .int .i64 v] w fun e w' => e = .returned (.agg (cellsI (x.set i z ++ [p, q]))) ∧ Below w.heap.size w w' := by
  have hu4 := Try.underlying35
  have hu3 := Try.underlying40
  have hz : Aside0 (∀ o : List Int, o.length = 18 → (Try.prog.info? 40).map (·.size) = some (cellsI o).size) := ⟨fun o h => by rw [cellsI_size, h]; kernel_rfl⟩
  have hl : Aside0 (∀ n : Int, (x.set i n ++ [p, q]).length = 18) := ⟨fun n => by rw [List.length_append, List.length_set, hx]; rfl⟩
  have HH := Aside0.mk (SetHolds.start w 40 (x ++ [p, q]) (List.replicate 16 0 ++ [0, 0]))
  have HZ := Aside0.mk h
  clear h
  have i1 : (i : Int) < 16 := by omega
  have d1 : ¬ (16 : Int) ≤ (i : Int) := by omega
  have d2 : decide ((16 : Int) ≤ (i : Int)) = false := decide_eq_false d1
  have e1 : decide ((4 : Int) ≤ a2) = true := decide_eq_true hs
  go_enter Try.func56, Try.ntmps56
  go_wp2_with (first | (go_at_call 76; refine (spec_l01Zero.calls k _ _ z _ HZ.out).mono ?_; rintro e w1 ⟨rfl, hb⟩; have H1 := Aside0.mk (HH.out.below hb.below); have c1 := (blk_cell H1.out.b1 i).trans (cpu_get x hx p q i hi); have f1 := blk_frozen H1.out.b1 i; have H2 := Aside0.mk (H1.out.step i z); rw [cpu_set x hx p q _ i hi] at H2; have H3 := Aside0.mk (H2.out.row (x.set i z ++ [p, q])); clear hb) | (refine wpList_load_row rfl 40 _ rfl w.heap.size rfl 40 (cellsI (x.set i z ++ [p, q])) (0, 0) _ H2.out.b1 hu3 rfl (hz.out _ (hl.out _)) ?_) | (refine wpList_store_row rfl 40 _ _ rfl (w.heap.size + 1) (cellsI (x.set i z ++ [p, q])) rfl rfl 40 _ H2.out.b2 (hz.out _ (hl.out _)) (by rw [cellsI_size, cellsI_size, hl.out]; rfl) (cellsI_all _) ?_))
  refine bodyPost_ret (results_cell_row rfl _ _ (w.heap.size + 1) 40 (cellsI (x.set i z ++ [p, q])) (0, 0) _ rfl H3.out.b2 hu3 rfl (hz.out _ (hl.out _))) rfl ?_
  exact ⟨rfl, H3.out.bel⟩
set_option maxHeartbeats 4000000 in
set_option maxRecDepth 100000 in
theorem spec_l07Set.one (k : Nat) (x : List Int) (p q : Int) (hx : x.length = 16) (i : Nat) (hi : i < 16) (v z : Int) (w : World) (h : spec_l01Zero.f k v 1 = some z) :
    Calls Try.prog 56 #[.agg (cellsI (x ++ [p, q])), .int .i64 (i), .int .i64 1, .int .i64 v] w fun e w' => e = .returned (.agg (cellsI (x.set i (wrap64 (bits BinOp.or IntKind.u64 (bits BinOp.andNot IntKind.u64 (IntKind.u64.wrap (rdOf 0 x (i : Int))) 255) (IntKind.u64.wrap (IntKind.u64.wrap z)))) ++ [p, q]))) ∧ Below w.heap.size w w' := by
  have hu4 := Try.underlying35
  have hu3 := Try.underlying40
  have hz : Aside0 (∀ o : List Int, o.length = 18 → (Try.prog.info? 40).map (·.size) = some (cellsI o).size) := ⟨fun o h => by rw [cellsI_size, h]; kernel_rfl⟩
  have hl : Aside0 (∀ n : Int, (x.set i n ++ [p, q]).length = 18) := ⟨fun n => by rw [List.length_append, List.length_set, hx]; rfl⟩
  have HH := Aside0.mk (SetHolds.start w 40 (x ++ [p, q]) (List.replicate 16 0 ++ [0, 0]))
  have HZ := Aside0.mk h
  clear h
  have i1 : (i : Int) < 16 := by omega
  have d1 : ¬ (16 : Int) ≤ (i : Int) := by omega
  have d2 : decide ((16 : Int) ≤ (i : Int)) = false := decide_eq_false d1
  have e1 : decide ((4 : Int) ≤ 1) = false := rfl
  go_enter Try.func56, Try.ntmps56
  go_wp2_with (first | (go_at_call 76; refine (spec_l01Zero.calls k _ _ z _ HZ.out).mono ?_; rintro e w1 ⟨rfl, hb⟩; have H1 := Aside0.mk (HH.out.below hb.below); have c1 := (blk_cell H1.out.b1 i).trans (cpu_get x hx p q i hi); have f1 := blk_frozen H1.out.b1 i; have H2 := Aside0.mk (H1.out.step i (wrap64 (bits BinOp.or IntKind.u64 (bits BinOp.andNot IntKind.u64 (IntKind.u64.wrap (rdOf 0 x (i : Int))) 255) (IntKind.u64.wrap (IntKind.u64.wrap z))))); rw [cpu_set x hx p q _ i hi] at H2; have H3 := Aside0.mk (H2.out.row (x.set i (wrap64 (bits BinOp.or IntKind.u64 (bits BinOp.andNot IntKind.u64 (IntKind.u64.wrap (rdOf 0 x (i : Int))) 255) (IntKind.u64.wrap (IntKind.u64.wrap z)))) ++ [p, q])); clear hb) | (refine wpList_load_row rfl 40 _ rfl w.heap.size rfl 40 (cellsI (x.set i (wrap64 (bits BinOp.or IntKind.u64 (bits BinOp.andNot IntKind.u64 (IntKind.u64.wrap (rdOf 0 x (i : Int))) 255) (IntKind.u64.wrap (IntKind.u64.wrap z)))) ++ [p, q])) (0, 0) _ H2.out.b1 hu3 rfl (hz.out _ (hl.out _)) ?_) | (refine wpList_store_row rfl 40 _ _ rfl (w.heap.size + 1) (cellsI (x.set i (wrap64 (bits BinOp.or IntKind.u64 (bits BinOp.andNot IntKind.u64 (IntKind.u64.wrap (rdOf 0 x (i : Int))) 255) (IntKind.u64.wrap (IntKind.u64.wrap z)))) ++ [p, q])) rfl rfl 40 _ H2.out.b2 (hz.out _ (hl.out _)) (by rw [cellsI_size, cellsI_size, hl.out]; rfl) (cellsI_all _) ?_))
  refine bodyPost_ret (results_cell_row rfl _ _ (w.heap.size + 1) 40 (cellsI (x.set i (wrap64 (bits BinOp.or IntKind.u64 (bits BinOp.andNot IntKind.u64 (IntKind.u64.wrap (rdOf 0 x (i : Int))) 255) (IntKind.u64.wrap (IntKind.u64.wrap z)))) ++ [p, q])) (0, 0) _ rfl H3.out.b2 hu3 rfl (hz.out _ (hl.out _))) rfl ?_
  exact ⟨rfl, H3.out.bel⟩
set_option maxHeartbeats 4000000 in
set_option maxRecDepth 100000 in
theorem spec_l07Set.two (k : Nat) (x : List Int) (p q : Int) (hx : x.length = 16) (i : Nat) (hi : i < 16) (v z : Int) (w : World) (h : spec_l01Zero.f k v 2 = some z) :
    Calls Try.prog 56 #[.agg (cellsI (x ++ [p, q])), .int .i64 (i), .int .i64 2, .int .i64 v] w fun e w' => e = .returned (.agg (cellsI (x.set i (wrap64 (bits BinOp.or IntKind.u64 (bits BinOp.andNot IntKind.u64 (IntKind.u64.wrap (rdOf 0 x (i : Int))) 65535) (IntKind.u64.wrap (IntKind.u64.wrap z)))) ++ [p, q]))) ∧ Below w.heap.size w w' := by
  have hu4 := Try.underlying35
  have hu3 := Try.underlying40
  have hz : Aside0 (∀ o : List Int, o.length = 18 → (Try.prog.info? 40).map (·.size) = some (cellsI o).size) := ⟨fun o h => by rw [cellsI_size, h]; kernel_rfl⟩
  have hl : Aside0 (∀ n : Int, (x.set i n ++ [p, q]).length = 18) := ⟨fun n => by rw [List.length_append, List.length_set, hx]; rfl⟩
  have HH := Aside0.mk (SetHolds.start w 40 (x ++ [p, q]) (List.replicate 16 0 ++ [0, 0]))
  have HZ := Aside0.mk h
  clear h
  have i1 : (i : Int) < 16 := by omega
  have d1 : ¬ (16 : Int) ≤ (i : Int) := by omega
  have d2 : decide ((16 : Int) ≤ (i : Int)) = false := decide_eq_false d1
  have e1 : decide ((4 : Int) ≤ 2) = false := rfl
  go_enter Try.func56, Try.ntmps56
  go_wp2_with (first | (go_at_call 76; refine (spec_l01Zero.calls k _ _ z _ HZ.out).mono ?_; rintro e w1 ⟨rfl, hb⟩; have H1 := Aside0.mk (HH.out.below hb.below); have c1 := (blk_cell H1.out.b1 i).trans (cpu_get x hx p q i hi); have f1 := blk_frozen H1.out.b1 i; have H2 := Aside0.mk (H1.out.step i (wrap64 (bits BinOp.or IntKind.u64 (bits BinOp.andNot IntKind.u64 (IntKind.u64.wrap (rdOf 0 x (i : Int))) 65535) (IntKind.u64.wrap (IntKind.u64.wrap z))))); rw [cpu_set x hx p q _ i hi] at H2; have H3 := Aside0.mk (H2.out.row (x.set i (wrap64 (bits BinOp.or IntKind.u64 (bits BinOp.andNot IntKind.u64 (IntKind.u64.wrap (rdOf 0 x (i : Int))) 65535) (IntKind.u64.wrap (IntKind.u64.wrap z)))) ++ [p, q])); clear hb) | (refine wpList_load_row rfl 40 _ rfl w.heap.size rfl 40 (cellsI (x.set i (wrap64 (bits BinOp.or IntKind.u64 (bits BinOp.andNot IntKind.u64 (IntKind.u64.wrap (rdOf 0 x (i : Int))) 65535) (IntKind.u64.wrap (IntKind.u64.wrap z)))) ++ [p, q])) (0, 0) _ H2.out.b1 hu3 rfl (hz.out _ (hl.out _)) ?_) | (refine wpList_store_row rfl 40 _ _ rfl (w.heap.size + 1) (cellsI (x.set i (wrap64 (bits BinOp.or IntKind.u64 (bits BinOp.andNot IntKind.u64 (IntKind.u64.wrap (rdOf 0 x (i : Int))) 65535) (IntKind.u64.wrap (IntKind.u64.wrap z)))) ++ [p, q])) rfl rfl 40 _ H2.out.b2 (hz.out _ (hl.out _)) (by rw [cellsI_size, cellsI_size, hl.out]; rfl) (cellsI_all _) ?_))
  refine bodyPost_ret (results_cell_row rfl _ _ (w.heap.size + 1) 40 (cellsI (x.set i (wrap64 (bits BinOp.or IntKind.u64 (bits BinOp.andNot IntKind.u64 (IntKind.u64.wrap (rdOf 0 x (i : Int))) 65535) (IntKind.u64.wrap (IntKind.u64.wrap z)))) ++ [p, q])) (0, 0) _ rfl H3.out.b2 hu3 rfl (hz.out _ (hl.out _))) rfl ?_
  exact ⟨rfl, H3.out.bel⟩
set_option maxHeartbeats 4000000 in
set_option maxRecDepth 100000 in
theorem spec_l07Set.high (k : Nat) (x : List Int) (p q : Int) (hx : x.length = 16) (i : Nat) (hi : i < 16) (v z : Int) (w : World) (h : spec_l01Zero.f k v 1 = some z) :
    Calls Try.prog 56 #[.agg (cellsI (x ++ [p, q])), .int .i64 ((i : Int) + 16), .int .i64 1, .int .i64 v] w fun e w' => e = .returned (.agg (cellsI (x.set i (wrap64 (bits BinOp.or IntKind.u64 (bits BinOp.andNot IntKind.u64 (IntKind.u64.wrap (rdOf 0 x (i : Int))) 65280) (IntKind.u64.wrap (IntKind.u64.wrap z * 256)))) ++ [p, q]))) ∧ Below w.heap.size w w' := by
  have hu4 := Try.underlying35
  have hu3 := Try.underlying40
  have hz : Aside0 (∀ o : List Int, o.length = 18 → (Try.prog.info? 40).map (·.size) = some (cellsI o).size) := ⟨fun o h => by rw [cellsI_size, h]; kernel_rfl⟩
  have hl : Aside0 (∀ n : Int, (x.set i n ++ [p, q]).length = 18) := ⟨fun n => by rw [List.length_append, List.length_set, hx]; rfl⟩
  have HH := Aside0.mk (SetHolds.start w 40 (x ++ [p, q]) (List.replicate 16 0 ++ [0, 0]))
  have HZ := Aside0.mk h
  clear h
  have i1 : (i : Int) < 16 := by omega
  have d1 : (16 : Int) ≤ (i : Int) + 16 := by omega
  have d2 : decide ((16 : Int) ≤ (i : Int) + 16) = true := decide_eq_true d1
  have d3 : (i : Int) + 16 - 16 = (i : Int) := by omega
  have e1 : decide ((4 : Int) ≤ 1) = false := rfl
  go_enter Try.func56, Try.ntmps56
  go_wp2_with (first | (go_at_call 76; refine (spec_l01Zero.calls k _ _ z _ HZ.out).mono ?_; rintro e w1 ⟨rfl, hb⟩; have H1 := Aside0.mk (HH.out.below hb.below); have c1 := (blk_cell H1.out.b1 i).trans (cpu_get x hx p q i hi); have f1 := blk_frozen H1.out.b1 i; have H2 := Aside0.mk (H1.out.step i (wrap64 (bits BinOp.or IntKind.u64 (bits BinOp.andNot IntKind.u64 (IntKind.u64.wrap (rdOf 0 x (i : Int))) 65280) (IntKind.u64.wrap (IntKind.u64.wrap z * 256))))); rw [cpu_set x hx p q _ i hi] at H2; have H3 := Aside0.mk (H2.out.row (x.set i (wrap64 (bits BinOp.or IntKind.u64 (bits BinOp.andNot IntKind.u64 (IntKind.u64.wrap (rdOf 0 x (i : Int))) 65280) (IntKind.u64.wrap (IntKind.u64.wrap z * 256)))) ++ [p, q])); clear hb) | (refine wpList_load_row rfl 40 _ rfl w.heap.size rfl 40 (cellsI (x.set i (wrap64 (bits BinOp.or IntKind.u64 (bits BinOp.andNot IntKind.u64 (IntKind.u64.wrap (rdOf 0 x (i : Int))) 65280) (IntKind.u64.wrap (IntKind.u64.wrap z * 256)))) ++ [p, q])) (0, 0) _ H2.out.b1 hu3 rfl (hz.out _ (hl.out _)) ?_) | (refine wpList_store_row rfl 40 _ _ rfl (w.heap.size + 1) (cellsI (x.set i (wrap64 (bits BinOp.or IntKind.u64 (bits BinOp.andNot IntKind.u64 (IntKind.u64.wrap (rdOf 0 x (i : Int))) 65280) (IntKind.u64.wrap (IntKind.u64.wrap z * 256)))) ++ [p, q])) rfl rfl 40 _ H2.out.b2 (hz.out _ (hl.out _)) (by rw [cellsI_size, cellsI_size, hl.out]; rfl) (cellsI_all _) ?_))
  refine bodyPost_ret (results_cell_row rfl _ _ (w.heap.size + 1) 40 (cellsI (x.set i (wrap64 (bits BinOp.or IntKind.u64 (bits BinOp.andNot IntKind.u64 (IntKind.u64.wrap (rdOf 0 x (i : Int))) 65280) (IntKind.u64.wrap (IntKind.u64.wrap z * 256)))) ++ [p, q])) (0, 0) _ rfl H3.out.b2 hu3 rfl (hz.out _ (hl.out _))) rfl ?_
  exact ⟨rfl, H3.out.bel⟩


/-! ### spec_SetReg: function 20 -/
theorem cpu_len (x : List Int) (hx : x.length = 16) (a b : Int) : (x ++ [a, b]).length = 18 := by rw [List.length_append, hx]; rfl
set_option maxHeartbeats 4000000 in
set_option maxRecDepth 100000 in
theorem spec_SetReg.bad1 (x : List Int) (p q : Int) (hx : x.length = 16) (a1 a2 v : Int) (w : World) (h1 : spec_l06Flags.f q = some false) :
    Calls Try.prog 20 #[.agg (cellsI (x ++ [p, q])), .int .i64 a1, .int .i64 a2, .int .i64 v] w fun e w' => e = .returned (.tuple #[.agg (cellsI ((List.replicate 16 0 ++ [0, 0]))), .int .i64 1]) ∧ Below w.heap.size w w' := by
  have hu3 := Try.underlying40
  have hz : Aside0 (∀ o : List Int, o.length = 18 → (Try.prog.info? 40).map (·.size) = some (cellsI o).size) := ⟨fun o h => by rw [cellsI_size, h]; kernel_rfl⟩
  have HH := Aside0.mk (SetHolds.start w 40 (x ++ [p, q]) (List.replicate 16 0 ++ [0, 0]))

  have H1 := Aside0.mk h1
  clear h1
  go_enter Try.func20, Try.ntmps20
  go_wp2_with (first | (refine wpList_load_row rfl 40 _ rfl w.heap.size rfl 40 (cellsI (x ++ [p, q])) (0, 0) _ HH.out.b1 hu3 rfl (hz.out _ (cpu_len x hx p q)) ?_) | (go_at_call 48; refine (spec_CpuOK.calls x p q hx _ _ H1.out).mono ?_; rintro e w1 ⟨rfl, hb⟩; replace HH := Aside0.mk (HH.out.below hb); clear hb) | (refine wpList_store_row rfl 40 _ _ rfl (w.heap.size + 1) (cellsI (List.replicate 16 0 ++ [0, 0])) rfl rfl 40 _ HH.out.b2 (hz.out _ rfl) rfl (cellsI_all _) ?_))
  have HS := Aside0.mk (HH.out.row ((List.replicate 16 0 ++ [0, 0])))
  refine bodyPost_ret (results_ct rfl _ _ (w.heap.size + 1) 40 (cellsI ((List.replicate 16 0 ++ [0, 0]))) (0, 0) _ rfl HS.out.b2 hu3 rfl (hz.out _ rfl)) rfl ?_
  exact ⟨rfl, HS.out.bel⟩
set_option maxHeartbeats 4000000 in
set_option maxRecDepth 100000 in
theorem spec_SetReg.bad4 (x : List Int) (p q : Int) (hx : x.length = 16) (a1 a2 v : Int) (w : World) (h1 : spec_l06Flags.f q = some true) (h2 : spec_l07RegOK.f a1 a2 = some false) :
    Calls Try.prog 20 #[.agg (cellsI (x ++ [p, q])), .int .i64 a1, .int .i64 a2, .int .i64 v] w fun e w' => e = .returned (.tuple #[.agg (cellsI ((List.replicate 16 0 ++ [0, 0]))), .int .i64 4]) ∧ Below w.heap.size w w' := by
  have hu3 := Try.underlying40
  have hz : Aside0 (∀ o : List Int, o.length = 18 → (Try.prog.info? 40).map (·.size) = some (cellsI o).size) := ⟨fun o h => by rw [cellsI_size, h]; kernel_rfl⟩
  have HH := Aside0.mk (SetHolds.start w 40 (x ++ [p, q]) (List.replicate 16 0 ++ [0, 0]))

  have H1 := Aside0.mk h1
  have H2 := Aside0.mk h2
  clear h1 h2
  go_enter Try.func20, Try.ntmps20
  go_wp2_with (first | (refine wpList_load_row rfl 40 _ rfl w.heap.size rfl 40 (cellsI (x ++ [p, q])) (0, 0) _ HH.out.b1 hu3 rfl (hz.out _ (cpu_len x hx p q)) ?_) | (go_at_call 48; refine (spec_CpuOK.calls x p q hx _ _ H1.out).mono ?_; rintro e w1 ⟨rfl, hb⟩; replace HH := Aside0.mk (HH.out.below hb); clear hb) | (go_at_call 49; refine (spec_l07RegOK.calls _ _ _ _ H2.out).mono ?_; rintro e w1 ⟨rfl, hb⟩; replace HH := Aside0.mk (HH.out.below hb.below); clear hb) | (refine wpList_store_row rfl 40 _ _ rfl (w.heap.size + 1) (cellsI (List.replicate 16 0 ++ [0, 0])) rfl rfl 40 _ HH.out.b2 (hz.out _ rfl) rfl (cellsI_all _) ?_))
  have HS := Aside0.mk (HH.out.row ((List.replicate 16 0 ++ [0, 0])))
  refine bodyPost_ret (results_ct rfl _ _ (w.heap.size + 1) 40 (cellsI ((List.replicate 16 0 ++ [0, 0]))) (0, 0) _ rfl HS.out.b2 hu3 rfl (hz.out _ rfl)) rfl ?_
  exact ⟨rfl, HS.out.bel⟩
set_option maxHeartbeats 4000000 in
set_option maxRecDepth 100000 in
theorem spec_SetReg.good (x : List Int) (p q : Int) (hx : x.length = 16) (a1 a2 v : Int) (w : World) (h1 : spec_l06Flags.f q = some true) (h2 : spec_l07RegOK.f a1 a2 = some true) (y : List Int) (hy : y.length = 16) (hc : ∀ W : World, Calls Try.prog 56 #[.agg (cellsI (x ++ [p, q])), .int .i64 a1, .int .i64 a2, .int .i64 v] W fun e w' => e = .returned (.agg (cellsI (y ++ [p, q]))) ∧ Below W.heap.size W w') :
    Calls Try.prog 20 #[.agg (cellsI (x ++ [p, q])), .int .i64 a1, .int .i64 a2, .int .i64 v] w fun e w' => e = .returned (.tuple #[.agg (cellsI (y ++ [p, q])), .int .i64 0]) ∧ Below w.heap.size w w' := by
  have hu3 := Try.underlying40
  have hz : Aside0 (∀ o : List Int, o.length = 18 → (Try.prog.info? 40).map (·.size) = some (cellsI o).size) := ⟨fun o h => by rw [cellsI_size, h]; kernel_rfl⟩
  have HH := Aside0.mk (SetHolds.start w 40 (x ++ [p, q]) (List.replicate 16 0 ++ [0, 0]))
  have H1 := Aside0.mk h1
  have H2 := Aside0.mk h2
  have HC := Aside0.mk hc
  clear h1 h2 hc
  go_enter Try.func20, Try.ntmps20
  go_wp2_with (first | (refine wpList_load_row rfl 40 _ rfl w.heap.size rfl 40 (cellsI (x ++ [p, q])) (0, 0) _ HH.out.b1 hu3 rfl (hz.out _ (cpu_len x hx p q)) ?_) | (go_at_call 48; refine (spec_CpuOK.calls x p q hx _ _ H1.out).mono ?_; rintro e w1 ⟨rfl, hb⟩; replace HH := Aside0.mk (HH.out.below hb); clear hb) | (go_at_call 49; refine (spec_l07RegOK.calls _ _ _ _ H2.out).mono ?_; rintro e w1 ⟨rfl, hb⟩; replace HH := Aside0.mk (HH.out.below hb.below); clear hb) | (go_at_call 56; refine (HC.out _).mono ?_; rintro e w1 ⟨rfl, hb⟩; replace HH := Aside0.mk (HH.out.below hb); clear hb) | (refine wpList_store_row rfl 40 _ _ rfl (w.heap.size + 1) (cellsI (y ++ [p, q])) rfl rfl 40 _ HH.out.b2 (hz.out _ (cpu_len y hy p q)) (by rw [cellsI_size, cellsI_size, cpu_len y hy]; rfl) (cellsI_all _) ?_))
  have HS := Aside0.mk (HH.out.row (y ++ [p, q]))
  refine bodyPost_ret (results_ct rfl _ _ (w.heap.size + 1) 40 (cellsI (y ++ [p, q])) (0, 0) _ rfl HS.out.b2 hu3 rfl (hz.out _ (cpu_len y hy p q))) rfl ?_
  exact ⟨rfl, HS.out.bel⟩


end Go.Proofs.Ytgipadecllofkaa.PFnRegs
