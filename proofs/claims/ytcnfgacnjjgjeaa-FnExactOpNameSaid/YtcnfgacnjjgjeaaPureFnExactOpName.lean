/- The program's OpName answers as the reference's at every number. -/
import Derived.Test.YtcnfgacnjjgjeaaPFnExactOpNamex1
namespace Go.Proofs.Ytcnfgacnjjgjeaa.Pure
open Go.RowKit Go.Proofs.Ytcnfgacnjjgjeaa.PFnExactOpName Go.Proofs.YtcnfgacnjjgjeaaW.PrintWords Go.Proofs.YtcnfgacnjjgjeaaW.PrintLast

theorem rd_tail {x y : ByteArray} {L : List ByteArray} {i : Int} (h : 1 ≤ i) (h2 : i ≤ 1000) : rdOf y (x :: L) i = rdOf y L (wrap64 (i - 1)) := by
  have e : wrap64 (i - 1) = i - 1 := by unfold wrap64; omega
  rw [e]
  unfold rdOf
  rw [show i.toNat = (i - 1).toNat + 1 by omega]
  rfl
theorem FnExactOpName : laws_FnExactOpName.Pure := by
  intro a0 _
  have e : ∃ s, spec_OpName.f a0 = some s ∧ impl_OpName.f a0 = some s := by
    unfold impl_OpName.f spec_OpName.f impl_isOp.f spec_l03Op.f spec_l01In.f impl_within.f
    by_cases h0 : a0 ≥ 1
    · rw [if_pos h0]
      simp only [Option.bind_some]
      by_cases h1 : a0 ≤ 44
      · have w : wrap64 (a0 - 1) = a0 - 1 := by unfold wrap64; omega
        simp only [h1, decide_true, if_true, spec_l03Names.f, impl_opNames.f, Option.bind_some]
        rw [if_pos (by omega), if_pos (by simp only [List.length_cons, List.length_nil]; omega), if_pos (by omega), if_pos (by simp only [List.length_cons, List.length_nil]; omega), rd_tail (i := a0) (by omega) (by omega)]
        exact ⟨_, rfl, rfl⟩
      · simp only [h1, decide_false, Bool.false_eq_true, if_false]
        exact ⟨_, rfl, rfl⟩
    · rw [if_neg h0]
      exact ⟨_, rfl, rfl⟩
  obtain ⟨s, h1, h2⟩ := e
  unfold laws_FnExactOpName.f
  rw [h1, h2]
  simp only [Option.bind_some, if_true]

end Go.Proofs.Ytcnfgacnjjgjeaa.Pure
