/- The program's ClassOf answers as the reference's at every number. -/
import Derived.Test.YtcnfgacnjjgjeaaPFnExactClassOfx1
namespace Go.Proofs.Ytcnfgacnjjgjeaa.Pure
open Go.RowKit Go.Proofs.Ytcnfgacnjjgjeaa.PFnExactClassOf Go.Proofs.YtcnfgacnjjgjeaaW.PrintWords Go.Proofs.YtcnfgacnjjgjeaaW.PrintLast

theorem FnExactClassOf : laws_FnExactClassOf.Pure := by
  intro a0 _
  refine ⟨1, ?_⟩
  have e : ∃ s, spec_ClassOf.f 1 a0 = some s ∧ impl_ClassOf.f 1 a0 = some s := by
    unfold impl_ClassOf.f spec_ClassOf.f impl_isOp.f spec_l03Op.f spec_l01In.f impl_within.f
    by_cases h0 : a0 ≥ 1
    · rw [if_pos h0]
      simp only [Option.bind_some]
      by_cases h1 : a0 ≤ 44
      · simp only [h1, decide_true, if_true, spec_l03Class.f, spec_l03Class.j0, impl_ClassOf.j0]
        by_cases a : a0 = 31 <;> by_cases b : a0 = 32 <;> by_cases c : a0 = 33 <;> by_cases d : a0 = 34 <;> by_cases e : a0 = 41 <;> by_cases f : a0 = 42 <;> by_cases g : a0 = 43 <;> by_cases h : a0 = 44 <;> simp_all
      · simp only [h1, decide_false, Bool.false_eq_true, if_false]
        exact ⟨_, rfl, rfl⟩
    · rw [if_neg h0]
      exact ⟨_, rfl, rfl⟩
  obtain ⟨s, h1, h2⟩ := e
  unfold laws_FnExactClassOf.f
  rw [h1, h2]
  simp only [Option.bind_some, if_true]

end Go.Proofs.Ytcnfgacnjjgjeaa.Pure
