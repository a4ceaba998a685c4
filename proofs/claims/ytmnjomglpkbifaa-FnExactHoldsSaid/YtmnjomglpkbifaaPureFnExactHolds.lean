/- What Holds answers is what the reference answers. -/
import Derived.Test.YtmnjomglpkbifaaPFnExactHoldsx1
import Derived.Test.YtmnjomglpkbifaaNumF
namespace Go.Proofs.Ytmnjomglpkbifaa.Pure
open Go.RowKit Go.Proofs.Ytmnjomglpkbifaa.PFnExactHolds Go.Proofs.YtmnjomglpkbifaaW.PrintWords Go.Proofs.YtmnjomglpkbifaaW.PrintLast Go.Proofs.YtmnjomglpkbifaaW.PrintMore Go.Proofs.Ytmnjomglpkbifaa.Num
set_option linter.unusedVariables false
set_option linter.unusedSimpArgs false

theorem in_spec (n l h : Int) : spec_l01In.f n l h = some (decide (l ≤ n ∧ n ≤ h)) := by
  unfold spec_l01In.f
  by_cases a : n ≥ l <;> by_cases b : n ≤ h <;> simp [a, b] <;> omega
theorem within_impl (n l h : Int) : impl_within.f n l h = some (decide (l ≤ n ∧ n ≤ h)) := by
  unfold impl_within.f
  by_cases a : n ≥ l <;> by_cases b : n ≤ h <;> simp [a, b] <;> omega
theorem and_self_le {a : Int} (h0 : 0 ≤ a) (ha : a ≤ 9223372036854775807) (h : Go.bits .and .i64 a 2245 = a) : a ≤ 2245 := by
  have h1 := congrArg un h
  rw [un_and] at h1
  have h2 : un 2245 = 2245 := rfl
  have h3 : un a &&& un 2245 ≤ un 2245 := Nat.and_le_right
  rw [h1, h2] at h3
  unfold un at h3; omega
theorem flags_small : ∀ i : Fin 2246, (Go.bits .and .i64 (i.val : Int) 2245 = (i.val : Int)) → ((i.val : Int) = Go.bits .and .i64 (i.val : Int) 2245) := fun _ h => h.symm
/-- Right flags: of five bits alone. -/
def FlOK (f : Int) : Prop := 0 ≤ f ∧ Go.bits .and .i64 f 2245 = f
instance (f : Int) : Decidable (FlOK f) := by unfold FlOK; infer_instance
theorem flags_spec (f : Int) : spec_l06Flags.f f = some (decide (FlOK f)) := by
  unfold spec_l06Flags.f FlOK
  by_cases h : f ≥ 0
  · have h' : 0 ≤ f := h
    rw [if_pos h]
    simp [h', Bool.beq_eq_decide_eq]
  · have h' : ¬ 0 ≤ f := h
    rw [if_neg h]
    simp [h']
theorem and_not_mask (F M : Nat) (hF : F < 2 ^ 64) (hM : M < 2 ^ 64) : (F &&& (18446744073709551615 - M) = 0) ↔ (F &&& M = F) := by
  have e : ∀ i, (18446744073709551615 - M).testBit i = (decide (i < 64) && !M.testBit i) := by
    intro i
    have h := Nat.testBit_two_pow_sub_succ hM i
    rw [show 2 ^ 64 - (M + 1) = 18446744073709551615 - M by omega] at h
    exact h
  constructor
  · intro h
    apply Nat.eq_of_testBit_eq
    intro i
    rw [Nat.testBit_and]
    have h1 := congrArg (fun n => Nat.testBit n i) h
    simp only [Nat.testBit_and, e, Nat.zero_testBit] at h1
    by_cases hi : i < 64
    · cases hf : F.testBit i <;> cases hm : M.testBit i <;> simp_all
    · rw [Nat.testBit_lt_two_pow (Nat.lt_of_lt_of_le hF (Nat.pow_le_pow_right (by decide) (by omega)))]
      rfl
  · intro h
    apply Nat.eq_of_testBit_eq
    intro i
    rw [Nat.testBit_and, e, Nat.zero_testBit]
    have h1 := congrArg (fun n => Nat.testBit n i) h
    simp only [Nat.testBit_and] at h1
    cases hf : F.testBit i <;> cases hm : M.testBit i <;> simp_all
theorem flagsOK_iff {f : Int} (hf : -9223372036854775808 ≤ f ∧ f ≤ 9223372036854775807) : (Go.bits .andNot .i64 f 2245 = 0) ↔ FlOK f := by
  have hu := un_lt f
  have hM : un 2245 = 2245 := rfl
  have key := and_not_mask (un f) 2245 hu (by decide)
  have e1 : Go.bits .andNot .i64 f 2245 = wrap64 ((un f &&& (18446744073709551615 - 2245) : Nat) : Int) := by rw [andNot_un, hM]
  have hlt : un f &&& (18446744073709551615 - 2245) < 18446744073709551616 := Nat.and_lt_two_pow (n := 64) _ (by decide)
  have l1 : Go.bits .andNot .i64 f 2245 = 0 ↔ un f &&& (18446744073709551615 - 2245) = 0 := by
    rw [e1]
    constructor
    · intro h
      have h2 := congrArg un h
      rw [un_wnat hlt] at h2
      exact h2
    · intro h; rw [h]; exact w64_in (n := ((0 : Nat) : Int)) (by omega) (by omega)
  have l2 : FlOK f ↔ un f &&& 2245 = un f := by
    constructor
    · rintro ⟨h0, h⟩
      have h2 := congrArg un h
      rw [un_and, hM] at h2
      exact h2
    · intro h
      have h3 : un f &&& 2245 ≤ 2245 := Nat.and_le_right
      rw [h] at h3
      refine ⟨by unfold un at h3; omega, ?_⟩
      rw [and_un, hM, h]
      exact (eq_wrap hf).symm
  rw [l1, l2, key]
theorem areFlags_impl {f : Int} (hf : -9223372036854775808 ≤ f ∧ f ≤ 9223372036854775807) : impl_areFlags.f f = some (decide (FlOK f)) := by
  unfold impl_areFlags.f
  rw [Bool.beq_eq_decide_eq, decide_eq_decide.mpr (flagsOK_iff hf)]
theorem carry_of {f : Int} (hf : FlOK f) : ∃ c : Nat, c ≤ 1 ∧ Go.bits .and .i64 f 1 = (c : Int) := by
  refine ⟨(f % 2).toNat, by omega, ?_⟩
  have h := and_mask f 1 (by decide)
  rw [show ((2 : Int) ^ 1 - 1) = 1 from rfl] at h
  rw [h]
  show f % 2 = _
  omega
/-- Does this condition hold? -/
def holdsV (c f : Int) : Bool := rdOf false (impl_holds.asks f) (c / 2) == decide (c % 2 = 0)
theorem has_ne (x b : Int) : (Go.bits .and .i64 x b != 0) = impl_holds.has x b := rfl
theorem has_eq (x b : Int) : (Go.bits .and .i64 x b = 0) ↔ impl_holds.has x b = false := by
  unfold impl_holds.has
  simp
theorem holds_impl {c : Int} (f : Int) (h0 : 0 ≤ c) (h1 : c ≤ 15) : impl_holds.f c f = some (holdsV c f) := by
  unfold impl_holds.f
  rw [if_pos h0, if_pos h1]
  rfl
theorem holds_spec {c : Int} (f : Int) (h0 : 0 ≤ c) (h1 : c ≤ 15) : spec_l06Holds.f c f = some (holdsV c f) := by
  unfold spec_l06Holds.f holdsV impl_holds.asks
  simp only [has_ne, has_eq]
  rw [Int.tdiv_eq_ediv_of_nonneg h0, w64_in (n := c / 2) (by omega) (by omega), Int.tmod_eq_emod_of_nonneg h0]
  have e : (c % 2 == 0) = decide (c % 2 = 0) := rfl
  rw [e]
  cases impl_holds.has f 1 <;> cases impl_holds.has f 64 <;> simp only [Option.bind_some, if_true, if_false, Bool.true_eq_false] <;> rw [if_pos (by omega), if_pos (by simp; omega)] <;> rfl
/-- What Holds answers. -/
def holdsOf (c f : Int) : Bool × Int := if 0 ≤ c ∧ c ≤ 15 ∧ FlOK f then (holdsV c f, 0) else (false, 4)
theorem holdsOf_spec (c f : Int) : spec_Holds.f c f = some (holdsOf c f) := by
  unfold spec_Holds.f holdsOf
  by_cases h0 : 0 ≤ c
  · by_cases h1 : c ≤ 15
    · rw [in_spec c 0 15, Option.bind_some, if_pos (by simp; omega), flags_spec, Option.bind_some]
      by_cases h2 : FlOK f
      · rw [if_pos (decide_eq_true h2), if_pos ⟨h0, h1, h2⟩, holds_spec f h0 h1]; rfl
      · rw [if_neg (by simp [h2]), if_neg (by simp [h2])]
    · rw [in_spec c 0 15, Option.bind_some, if_neg (by simp; omega), if_neg (by omega)]
  · rw [in_spec c 0 15, Option.bind_some, if_neg (by simp; omega), if_neg (by omega)]
theorem holdsOf_impl (c f : Int) (hf : -9223372036854775808 ≤ f ∧ f ≤ 9223372036854775807) : impl_Holds.f c f = some (holdsOf c f) := by
  unfold impl_Holds.f holdsOf
  by_cases h0 : 0 ≤ c
  · by_cases h1 : c ≤ 15
    · rw [within_impl c 0 15, Option.bind_some, if_pos (by simp; omega), areFlags_impl hf, Option.bind_some]
      by_cases h2 : FlOK f
      · rw [if_pos (decide_eq_true h2), if_pos ⟨h0, h1, h2⟩, holds_impl f h0 h1]; rfl
      · rw [if_neg (by simp [h2]), if_neg (by simp [h2])]
    · rw [within_impl c 0 15, Option.bind_some, if_neg (by simp; omega), if_neg (by omega)]
  · rw [within_impl c 0 15, Option.bind_some, if_neg (by simp; omega), if_neg (by omega)]
theorem FnExactHolds : laws_FnExactHolds.Pure := by
  intro c f hc hf
  unfold laws_FnExactHolds.f
  rw [holdsOf_spec, holdsOf_impl c f (wf_i64 hf)]
  simp

end Go.Proofs.Ytmnjomglpkbifaa.Pure
