/- The program's CondName answers as the reference's at every number. -/
import Derived.Test.YtcnfgacnjjgjeaaPFnExactCondNamex1
namespace Go.Proofs.Ytcnfgacnjjgjeaa.Pure
open Go.RowKit Go.Proofs.Ytcnfgacnjjgjeaa.PFnExactCondName Go.Proofs.YtcnfgacnjjgjeaaW.PrintWords Go.Proofs.YtcnfgacnjjgjeaaW.PrintLast

theorem FnExactCondName : laws_FnExactCondName.Pure := by
  intro a0 _
  have e : impl_CondName.f a0 = spec_CondName.f a0 := rfl
  have s : ∃ s, spec_CondName.f a0 = some s := by
    unfold spec_CondName.f spec_l01In.f spec_l03Conds.f
    by_cases h0 : 0 ≤ a0
    · by_cases h1 : a0 ≤ 15
      · rw [if_pos (by omega)]
        simp only [Option.bind_some, h1, decide_true, if_true]
        rw [if_pos (by omega), if_pos (by simp only [List.length_cons, List.length_nil]; omega)]
        exact ⟨_, rfl⟩
      · rw [if_pos (by omega)]
        simp only [Option.bind_some, h1, decide_false, Bool.false_eq_true, if_false]
        exact ⟨_, rfl⟩
    · rw [if_neg (by omega)]
      exact ⟨_, rfl⟩
  obtain ⟨s, h1⟩ := s
  unfold laws_FnExactCondName.f
  rw [e, h1]
  simp only [Option.bind_some, if_true]

end Go.Proofs.Ytcnfgacnjjgjeaa.Pure
