/- The law of FnExactRegName. -/
import Derived.Test.YtkaffpbclanoeaaDoorPFnExactRegNamex3
namespace Go.Proofs.YtkaffpbclanoeaaDoor.Pure
open Go.RowKit Go.Proofs.YtkaffpbclanoeaaDoor.PFnExactRegName Go.Proofs.YtkaffpbclanoeaaDoorW.PrintWords Go.Proofs.YtkaffpbclanoeaaDoorW.PrintLast
set_option linter.unusedVariables false
set_option linter.unusedSimpArgs false
theorem both (a1 : Int) (h : a1 = 1 ∨ a1 = 2 ∨ a1 = 4 ∨ a1 = 8) : ∃ L, spec_l03Regs.f 60 a1 = some L ∧ impl_regNames.f 60 a1 = some L ∧ L.length = if a1 = 1 then 20 else 16 := by
  rcases h with rfl | rfl | rfl | rfl
  · exact ⟨(impl_regNames.f 60 1).getD [], by kernel_rfl, by kernel_rfl, by kernel_rfl⟩
  · exact ⟨(impl_regNames.f 60 2).getD [], by kernel_rfl, by kernel_rfl, by kernel_rfl⟩
  · exact ⟨(impl_regNames.f 60 4).getD [], by kernel_rfl, by kernel_rfl, by kernel_rfl⟩
  · exact ⟨(impl_regNames.f 60 8).getD [], by kernel_rfl, by kernel_rfl, by kernel_rfl⟩
theorem size_spec (a : Int) : spec_l01Size.f a = some (decide (a = 1 ∨ a = 2 ∨ a = 4 ∨ a = 8)) := by
  unfold spec_l01Size.f
  by_cases h1 : a = 1
  · simp [h1]
  by_cases h2 : a = 2
  · simp [h2]
  by_cases h4 : a = 4
  · simp [h4]
  by_cases h8 : a = 8
  · simp [h8]
  · simp [h1, h2, h4, h8]
theorem size_impl (a : Int) : impl_isSize.f a = some (decide (a = 1 ∨ a = 2 ∨ a = 4 ∨ a = 8)) := by
  unfold impl_isSize.f
  by_cases h1 : a = 1
  · simp [h1]
  by_cases h2 : a = 2
  · simp [h2]
  by_cases h4 : a = 4
  · simp [h4]
  by_cases h8 : a = 8
  · simp [h8]
  · simp [h1, h2, h4, h8]
theorem within_impl (n l h : Int) : impl_within.f n l h = some (decide (l ≤ n ∧ n ≤ h)) := by
  unfold impl_within.f
  by_cases a : n ≥ l <;> by_cases b : n ≤ h <;> simp [a, b] <;> omega
theorem high_impl (n : Int) : impl_isHigh.f n = some (decide (16 ≤ n ∧ n ≤ 19)) := by
  unfold impl_isHigh.f
  rw [within_impl]
  first | rfl | simp
theorem reg_impl (a0 a1 : Int) : impl_isReg.f a0 a1 = some (decide ((a1 = 1 ∨ a1 = 2 ∨ a1 = 4 ∨ a1 = 8) ∧ ((0 ≤ a0 ∧ a0 ≤ 15) ∨ (a1 = 1 ∧ 16 ≤ a0 ∧ a0 ≤ 19)))) := by
  unfold impl_isReg.f
  rw [size_impl, Option.bind_some, within_impl, Option.bind_some, high_impl, Option.bind_some]
  by_cases h : a1 = 1 ∨ a1 = 2 ∨ a1 = 4 ∨ a1 = 8
  · by_cases g : 0 ≤ a0 ∧ a0 ≤ 15
    · simp [h, g]
    · by_cases e : a1 = 1
      · simp only [h, g, e, decide_true, decide_false, if_true, true_and, false_or, or_false, true_or, reduceIte, Bool.false_eq_true]
      · simp [h, g, e]
  · simp [h]
theorem FnExactRegName : laws_FnExactRegName.Pure := by
  intro a0 a1 w0 w1
  refine ⟨60, ?_⟩
  unfold laws_FnExactRegName.f
  suffices h : ∃ s, spec_RegName.f 60 a0 a1 = some s ∧ impl_RegName.f 60 a0 a1 = some s by
    obtain ⟨s, h1, h2⟩ := h
    rw [h1, h2, Option.bind_some, Option.bind_some, if_pos rfl]
  by_cases h : a1 = 1 ∨ a1 = 2 ∨ a1 = 4 ∨ a1 = 8
  · obtain ⟨L, e1, e2, e3⟩ := both a1 h
    by_cases g : 0 ≤ a0 ∧ a0 < (L.length : Int)
    · have hr : (0 ≤ a0 ∧ a0 ≤ 15) ∨ (a1 = 1 ∧ 16 ≤ a0 ∧ a0 ≤ 19) := by
        rw [e3] at g
        by_cases e : a1 = 1
        · rw [if_pos e] at g; omega
        · rw [if_neg e] at g; omega
      refine ⟨rdOf ByteArray.empty L a0, ?_, ?_⟩
      · unfold spec_RegName.f
        rw [size_spec, Option.bind_some, if_pos (by simpa using h), e1, Option.bind_some, if_neg (by omega), if_neg (by omega), if_pos g.1, if_pos g.2]
      · unfold impl_RegName.f
        rw [reg_impl, Option.bind_some, if_pos (decide_eq_true ⟨h, hr⟩), e2, Option.bind_some, if_pos g.1, if_pos g.2]
    · have hr : ¬ ((0 ≤ a0 ∧ a0 ≤ 15) ∨ (a1 = 1 ∧ 16 ≤ a0 ∧ a0 ≤ 19)) := by
        rw [e3] at g
        by_cases e : a1 = 1
        · rw [if_pos e] at g; omega
        · rw [if_neg e] at g; omega
      refine ⟨⟨#[]⟩, ?_, ?_⟩
      · unfold spec_RegName.f
        rw [size_spec, Option.bind_some, if_pos (by simpa using h), e1, Option.bind_some]
        by_cases n : a0 < 0
        · rw [if_pos n]
        · rw [if_neg n, if_pos (by omega)]
      · unfold impl_RegName.f
        rw [reg_impl, Option.bind_some, if_neg (fun x => hr (of_decide_eq_true x).2)]
  · refine ⟨⟨#[]⟩, ?_, ?_⟩
    · unfold spec_RegName.f
      rw [size_spec, Option.bind_some, if_neg (by simpa using h)]
    · unfold impl_RegName.f
      rw [reg_impl, Option.bind_some, if_neg (fun x => h (of_decide_eq_true x).1)]
end Go.Proofs.YtkaffpbclanoeaaDoor.Pure
