-- Written for this claim by the session's own program, out of the translation. Not trusted: Lean checks it.
import Derived.Test.YtkaffpbclanoeaaProg
import Derived.Below
import Derived.Deep.Draws
import Derived.Deep.AppendLies
import Derived.Maps.AppendAt
import Derived.OwnWalk
import Derived.Laws.BytesArg
import Derived.Laws.MakeOwn
import Derived.Laws.OwnMore
import Derived.Deep.OwnRows
import Derived.Tactics
import Derived.Lib.ConvBytes
import Derived.Laws.Slices
import Derived.WalkKit
import Derived.KernelRfl
import Derived.RowKit3
import Derived.Deep.LoopGhost
import Derived.Deep.QuietTactic
import Derived.BigQuiet
import Derived.WideLaws
import Derived.Deep.DeepCutAuto
import Derived.Deep.CutBlock
import Derived.Deep.RegionHeld3
import Derived.Laws.Rows
import Derived.Lib.AppendStr
import Derived.ArgAppend
import Derived.Laws.IdiomCopy
import Derived.OrdersHeld
import Derived.Laws.BitsLemmas
import Derived.RowKit
import Derived.StillTailTactics
import Derived.Lib.SliceRun
import Derived.Test.YtkaffpbclanoeaaCap
import Derived.Test.YtkaffpbclanoeaaTail
import Derived.Test.YtkaffpbclanoeaaCells
import Derived.Test.YtkaffpbclanoeaaQC
import Derived.Test.YtkaffpbclanoeaaWWords
import Derived.Test.YtkaffpbclanoeaaWLast
import Derived.Test.YtkaffpbclanoeaaWTab
import Derived.Test.YtkaffpbclanoeaaWFour
import Derived.Test.YtkaffpbclanoeaaWQPut
import Derived.Test.YtkaffpbclanoeaaWApart
import Derived.Test.YtkaffpbclanoeaaWArr
import Derived.Test.YtkaffpbclanoeaaWZeros
import Derived.Test.YtkaffpbclanoeaaWFoot
import Derived.Test.YtkaffpbclanoeaaWKept
import Derived.Test.YtkaffpbclanoeaaWShare
import Derived.Test.YtkaffpbclanoeaaWN
import Derived.Test.YtkaffpbclanoeaaWFootNe
import Derived.Test.YtkaffpbclanoeaaWAt
import Derived.Test.YtkaffpbclanoeaaWEqStruct
import Derived.Test.YtkaffpbclanoeaaWRepsOne
import Derived.Test.YtkaffpbclanoeaaWInv
import Derived.Test.YtkaffpbclanoeaaWInvWords
import Derived.Test.YtkaffpbclanoeaaWGuard
import Derived.Test.YtkaffpbclanoeaaWNEv
import Derived.Test.YtkaffpbclanoeaaWMore
namespace Go.Proofs.Ytkaffpbclanoeaa.PFnExactShapeOf
open Go.RowKit Go.Proofs.YtkaffpbclanoeaaW.PrintWords Go.Proofs.YtkaffpbclanoeaaW.PrintLast Go.Proofs.YtkaffpbclanoeaaW.PrintMore
attribute [local go_sem] max2_int min2_int max_two min_two max_three min_three max_four min_four   -- for this text's walks alone
set_option linter.unusedVariables false
set_option linter.unusedSimpArgs false



def errW : Option Int → Value
  | none => .nilIface
  | some c => .iface 0 (.int .i64 c)
theorem errW_none : errW none = .nilIface := rfl
theorem errW_some (c : Int) : errW (some c) = .iface 0 (.int .i64 c) := rfl

-- the values' own types

end Go.Proofs.Ytkaffpbclanoeaa.PFnExactShapeOf
