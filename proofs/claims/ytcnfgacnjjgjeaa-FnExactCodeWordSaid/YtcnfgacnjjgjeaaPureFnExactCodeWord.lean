/- The program's CodeWord answers as the reference's at every number. -/
import Derived.Test.YtcnfgacnjjgjeaaPFnExactCodeWordx1
namespace Go.Proofs.Ytcnfgacnjjgjeaa.Pure
open Go.RowKit Go.Proofs.Ytcnfgacnjjgjeaa.PFnExactCodeWord Go.Proofs.YtcnfgacnjjgjeaaW.PrintWords Go.Proofs.YtcnfgacnjjgjeaaW.PrintLast

theorem FnExactCodeWord : laws_FnExactCodeWord.Pure := by
  intro a0 _
  have e : ∃ s, spec_CodeWord.f a0 = some s ∧ impl_CodeWord.f a0 = some s := by
    unfold impl_CodeWord.f spec_CodeWord.f impl_within.f impl_codeWords.f
    simp only [Option.bind_some]
    by_cases h0 : a0 < 0
    · rw [if_pos h0, if_neg (by omega)]
      exact ⟨_, rfl, rfl⟩
    · by_cases h1 : a0 ≤ 35
      · rw [if_neg h0, if_neg (by simp only [List.length_cons, List.length_nil]; omega), if_pos (by omega), if_pos (by simp only [List.length_cons, List.length_nil]; omega), if_pos (by omega)]
        simp only [Option.bind_some, h1, decide_true, if_true]
        exact ⟨_, rfl, rfl⟩
      · rw [if_neg h0, if_pos (by simp only [List.length_cons, List.length_nil]; omega), if_pos (by omega)]
        simp only [Option.bind_some, h1, decide_false, Bool.false_eq_true, if_false]
        exact ⟨_, rfl, rfl⟩
  obtain ⟨s, h1, h2⟩ := e
  unfold laws_FnExactCodeWord.f
  rw [h1, h2]
  simp only [Option.bind_some, if_true]

end Go.Proofs.Ytcnfgacnjjgjeaa.Pure
