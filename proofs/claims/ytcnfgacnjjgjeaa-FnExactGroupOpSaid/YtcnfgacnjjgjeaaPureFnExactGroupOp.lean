/- The program's GroupOp answers as the reference's at every two numbers. -/
import Derived.Test.YtcnfgacnjjgjeaaPFnExactGroupOpx1
namespace Go.Proofs.Ytcnfgacnjjgjeaa.Pure
open Go.RowKit Go.Proofs.Ytcnfgacnjjgjeaa.PFnExactGroupOp Go.Proofs.YtcnfgacnjjgjeaaW.PrintWords Go.Proofs.YtcnfgacnjjgjeaaW.PrintLast

theorem group_all : ∀ i : Fin 7, ∀ j : Fin 8, laws_FnExactGroupOp.f 1 ((i.val : Int) + 1) (j.val : Int) = some true := by decide +kernel
theorem FnExactGroupOp : laws_FnExactGroupOp.Pure := by
  intro a0 a1 _ _
  refine ⟨1, ?_⟩
  by_cases h0 : 1 ≤ a0 ∧ a0 ≤ 7 ∧ 0 ≤ a1 ∧ a1 ≤ 7
  · obtain ⟨h1, h2, h3, h4⟩ := h0
    have h := group_all ⟨(a0 - 1).toNat, by omega⟩ ⟨a1.toNat, by omega⟩
    simp only at h
    rwa [show (((a0 - 1).toNat : Nat) : Int) + 1 = a0 by omega, show ((a1.toNat : Nat) : Int) = a1 by omega] at h
  · have e : spec_GroupOp.f 1 a0 a1 = some (0, 4) ∧ impl_GroupOp.f 1 a0 a1 = some (0, 4) := by
      unfold spec_GroupOp.f impl_GroupOp.f spec_l01In.f impl_within.f
      by_cases b1 : a0 ≥ 1
      · by_cases b2 : a0 ≤ 7
        · by_cases b3 : a1 ≥ 0
          · have b4 : ¬ a1 ≤ 7 := by omega
            simp [b1, b2, b3, b4, spec_GroupOp.j0, impl_GroupOp.j0]
          · simp [b1, b2, b3, spec_GroupOp.j0, impl_GroupOp.j0]
        · simp [b1, b2, spec_GroupOp.j0, impl_GroupOp.j0]
      · simp [b1, spec_GroupOp.j0, impl_GroupOp.j0]
    unfold laws_FnExactGroupOp.f
    rw [e.1, e.2]
    rfl

end Go.Proofs.Ytcnfgacnjjgjeaa.Pure
