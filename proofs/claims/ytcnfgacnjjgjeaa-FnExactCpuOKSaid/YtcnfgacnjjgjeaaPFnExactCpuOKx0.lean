-- Written for this claim by the session's own program, out of the translation. Not trusted: Lean checks it.
import Derived.Test.YtcnfgacnjjgjeaaProg
import Derived.Below
import Derived.Deep.Draws
import Derived.Deep.AppendLies
import Derived.Maps.AppendAt
import Derived.OwnWalk
import Derived.Laws.BytesArg
import Derived.Laws.MakeOwn
import Derived.Laws.OwnMore
import Derived.Deep.OwnRows
import Derived.Tactics
import Derived.Lib.ConvBytes
import Derived.Laws.Slices
import Derived.WalkKit
import Derived.KernelRfl
import Derived.RowKit3
import Derived.Deep.LoopGhost
import Derived.Deep.QuietTactic
import Derived.BigQuiet
import Derived.WideLaws
import Derived.Deep.DeepCutAuto
import Derived.Deep.CutBlock
import Derived.Deep.RegionHeld3
import Derived.Laws.Rows
import Derived.Lib.AppendStr
import Derived.ArgAppend
import Derived.Laws.IdiomCopy
import Derived.OrdersHeld
import Derived.Laws.BitsLemmas
import Derived.RowKit
import Derived.StillTailTactics
import Derived.Lib.SliceRun
import Derived.Test.YtcnfgacnjjgjeaaCells
import Derived.Test.YtcnfgacnjjgjeaaWWords
import Derived.Test.YtcnfgacnjjgjeaaWLast
import Derived.Test.YtcnfgacnjjgjeaaWTab
import Derived.Test.YtcnfgacnjjgjeaaWFour
import Derived.Test.YtcnfgacnjjgjeaaWQPut
import Derived.Test.YtcnfgacnjjgjeaaWApart
import Derived.Test.YtcnfgacnjjgjeaaWArr
import Derived.Test.YtcnfgacnjjgjeaaWZeros
import Derived.Test.YtcnfgacnjjgjeaaWFoot
import Derived.Test.YtcnfgacnjjgjeaaWKept
import Derived.Test.YtcnfgacnjjgjeaaWShare
import Derived.Test.YtcnfgacnjjgjeaaWN
import Derived.Test.YtcnfgacnjjgjeaaWFootNe
import Derived.Test.YtcnfgacnjjgjeaaWAt
import Derived.Test.YtcnfgacnjjgjeaaWEqStruct
import Derived.Test.YtcnfgacnjjgjeaaWRepsOne
import Derived.Test.YtcnfgacnjjgjeaaWInv
import Derived.Test.YtcnfgacnjjgjeaaWInvWords
import Derived.Test.YtcnfgacnjjgjeaaWGuard
import Derived.Test.YtcnfgacnjjgjeaaWNEv
import Derived.Test.YtcnfgacnjjgjeaaWMore
namespace Go.Proofs.Ytcnfgacnjjgjeaa.PFnExactCpuOK
open Go.RowKit Go.Proofs.YtcnfgacnjjgjeaaW.PrintWords Go.Proofs.YtcnfgacnjjgjeaaW.PrintLast Go.Proofs.YtcnfgacnjjgjeaaW.PrintMore
attribute [local go_sem] max2_int min2_int max_two min_two max_three min_three max_four min_four   -- for this text's walks alone
set_option linter.unusedVariables false
set_option linter.unusedSimpArgs false



def errW : Option Int → Value
  | none => .nilIface
  | some c => .iface 0 (.int .i64 c)
theorem errW_none : errW none = .nilIface := rfl
theorem errW_some (c : Int) : errW (some c) = .iface 0 (.int .i64 c) := rfl

-- the values' own types

end Go.Proofs.Ytcnfgacnjjgjeaa.PFnExactCpuOK
