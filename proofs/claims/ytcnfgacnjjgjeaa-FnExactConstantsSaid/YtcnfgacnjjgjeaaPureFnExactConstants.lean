import Derived.Test.YtcnfgacnjjgjeaaPFnExactConstantsx1
namespace Go.Proofs.Ytcnfgacnjjgjeaa.Pure
open Go.RowKit Go.Proofs.Ytcnfgacnjjgjeaa.PFnExactConstants Go.Proofs.YtcnfgacnjjgjeaaW.PrintWords Go.Proofs.YtcnfgacnjjgjeaaW.PrintLast

/-- YOURS: laws_FnExactConstants.f  = some true
What it reaches (each with k first where it has rounds; `.mono`: more rounds tell the same; `.l0`, ..: its loops, with `.mono_l`): laws_FnExactConstants.f -/
theorem FnExactConstants : laws_FnExactConstants.Pure := rfl

end Go.Proofs.Ytcnfgacnjjgjeaa.Pure
