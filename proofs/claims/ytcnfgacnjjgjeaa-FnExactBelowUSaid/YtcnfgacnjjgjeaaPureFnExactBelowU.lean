/- The program's BelowU answers as the reference's at every two numbers. -/
import Derived.Test.YtcnfgacnjjgjeaaPFnExactBelowUx1
namespace Go.Proofs.Ytcnfgacnjjgjeaa.Pure
open Go.RowKit Go.Proofs.Ytcnfgacnjjgjeaa.PFnExactBelowU Go.Proofs.YtcnfgacnjjgjeaaW.PrintWords Go.Proofs.YtcnfgacnjjgjeaaW.PrintLast

theorem FnExactBelowU : laws_FnExactBelowU.Pure := by
  intro a0 a1 _ _
  simp [laws_FnExactBelowU.f, spec_BelowU.f, impl_BelowU.f]

end Go.Proofs.Ytcnfgacnjjgjeaa.Pure
