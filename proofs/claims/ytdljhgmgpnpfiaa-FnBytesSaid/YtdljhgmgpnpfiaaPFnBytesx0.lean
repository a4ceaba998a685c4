-- Written for this claim by the session's own program, out of the translation. Not trusted: Lean checks it.
import Derived.Test.YtdljhgmgpnpfiaaProg
import Derived.Below
import Derived.Deep.Draws
import Derived.Deep.AppendLies
import Derived.Maps.AppendAt
import Derived.OwnWalk
import Derived.Laws.BytesArg
import Derived.Laws.MakeOwn
import Derived.Laws.OwnMore
import Derived.Deep.OwnRows
import Derived.Tactics
import Derived.Lib.ConvBytes
import Derived.Laws.Slices
import Derived.WalkKit
import Derived.KernelRfl
import Derived.RowKit3
import Derived.Deep.LoopGhost
import Derived.Deep.QuietTactic
import Derived.BigQuiet
import Derived.WideLaws
import Derived.Deep.DeepCutAuto
import Derived.Deep.CutBlock
import Derived.Deep.RegionHeld3
import Derived.Laws.Rows
import Derived.Lib.AppendStr
import Derived.ArgAppend
import Derived.Laws.IdiomCopy
import Derived.OrdersHeld
import Derived.Laws.BitsLemmas
import Derived.RowKit
import Derived.StillTailTactics
import Derived.Lib.SliceRun
import Derived.Test.YtdljhgmgpnpfiaaCap
import Derived.Test.YtdljhgmgpnpfiaaQC
import Derived.Test.YtdljhgmgpnpfiaaWWords
import Derived.Test.YtdljhgmgpnpfiaaWLast
import Derived.Test.YtdljhgmgpnpfiaaWTab
import Derived.Test.YtdljhgmgpnpfiaaWFour
import Derived.Test.YtdljhgmgpnpfiaaWQPut
import Derived.Test.YtdljhgmgpnpfiaaWApart
import Derived.Test.YtdljhgmgpnpfiaaWArr
import Derived.Test.YtdljhgmgpnpfiaaWZeros
import Derived.Test.YtdljhgmgpnpfiaaWFoot
import Derived.Test.YtdljhgmgpnpfiaaWKept
import Derived.Test.YtdljhgmgpnpfiaaWShare
import Derived.Test.YtdljhgmgpnpfiaaWN
import Derived.Test.YtdljhgmgpnpfiaaWFootNe
import Derived.Test.YtdljhgmgpnpfiaaWAt
import Derived.Test.YtdljhgmgpnpfiaaWEqStruct
import Derived.Test.YtdljhgmgpnpfiaaWRepsOne
import Derived.Test.YtdljhgmgpnpfiaaWInv
import Derived.Test.YtdljhgmgpnpfiaaWInvWords
import Derived.Test.YtdljhgmgpnpfiaaWGuard
import Derived.Test.YtdljhgmgpnpfiaaWNEv
import Derived.Test.YtdljhgmgpnpfiaaWMore
namespace Go.Proofs.Ytdljhgmgpnpfiaa.PFnBytes
open Go.RowKit Go.Proofs.YtdljhgmgpnpfiaaW.PrintWords Go.Proofs.YtdljhgmgpnpfiaaW.PrintLast Go.Proofs.YtdljhgmgpnpfiaaW.PrintMore
attribute [local go_sem] max2_int min2_int max_two min_two max_three min_three max_four min_four   -- for this text's walks alone
set_option linter.unusedVariables false
set_option linter.unusedSimpArgs false



def errW : Option Int → Value
  | none => .nilIface
  | some c => .iface 0 (.int .i64 c)
theorem errW_none : errW none = .nilIface := rfl
theorem errW_some (c : Int) : errW (some c) = .iface 0 (.int .i64 c) := rfl

theorem info3 : (Try.prog.info? 3).map (fun i => (i.zero, i.size, i.bytes)) = some (some (.int .i64 0), 1, 8) := by kernel_rfl
theorem info5 : (Try.prog.info? 5).map (fun i => (i.zero, i.size, i.bytes)) = some (some (.int .u8 0), 1, 1) := by kernel_rfl
-- the values' own types

end Go.Proofs.Ytdljhgmgpnpfiaa.PFnBytes
