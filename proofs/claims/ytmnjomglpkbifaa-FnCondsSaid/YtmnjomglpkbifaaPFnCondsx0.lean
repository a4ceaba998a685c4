-- Written for this claim by the session's own program, out of the translation. Not trusted: Lean checks it.
import Derived.Test.YtmnjomglpkbifaaProg
import Derived.Below
import Derived.Deep.Draws
import Derived.Deep.AppendLies
import Derived.Maps.AppendAt
import Derived.OwnWalk
import Derived.Laws.BytesArg
import Derived.Laws.MakeOwn
import Derived.Laws.OwnMore
import Derived.Deep.OwnRows
import Derived.Tactics
import Derived.Lib.ConvBytes
import Derived.Laws.Slices
import Derived.WalkKit
import Derived.KernelRfl
import Derived.RowKit3
import Derived.Deep.LoopGhost
import Derived.Deep.QuietTactic
import Derived.BigQuiet
import Derived.WideLaws
import Derived.Deep.DeepCutAuto
import Derived.Deep.CutBlock
import Derived.Deep.RegionHeld3
import Derived.Laws.Rows
import Derived.Lib.AppendStr
import Derived.ArgAppend
import Derived.Laws.IdiomCopy
import Derived.OrdersHeld
import Derived.Laws.BitsLemmas
import Derived.RowKit
import Derived.StillTailTactics
import Derived.Test.YtmnjomglpkbifaaWWords
import Derived.Test.YtmnjomglpkbifaaWLast
import Derived.Test.YtmnjomglpkbifaaWTab
import Derived.Test.YtmnjomglpkbifaaWFour
import Derived.Test.YtmnjomglpkbifaaWQPut
import Derived.Test.YtmnjomglpkbifaaWApart
import Derived.Test.YtmnjomglpkbifaaWArr
import Derived.Test.YtmnjomglpkbifaaWZeros
import Derived.Test.YtmnjomglpkbifaaWFoot
import Derived.Test.YtmnjomglpkbifaaWKept
import Derived.Test.YtmnjomglpkbifaaWShare
import Derived.Test.YtmnjomglpkbifaaWN
import Derived.Test.YtmnjomglpkbifaaWFootNe
import Derived.Test.YtmnjomglpkbifaaWAt
import Derived.Test.YtmnjomglpkbifaaWEqStruct
import Derived.Test.YtmnjomglpkbifaaWRepsOne
import Derived.Test.YtmnjomglpkbifaaWInv
import Derived.Test.YtmnjomglpkbifaaWInvWords
import Derived.Test.YtmnjomglpkbifaaWGuard
import Derived.Test.YtmnjomglpkbifaaWNEv
import Derived.Test.YtmnjomglpkbifaaWMore
namespace Go.Proofs.Ytmnjomglpkbifaa.PFnConds
open Go.RowKit Go.Proofs.YtmnjomglpkbifaaW.PrintWords Go.Proofs.YtmnjomglpkbifaaW.PrintLast Go.Proofs.YtmnjomglpkbifaaW.PrintMore
attribute [local go_sem] max2_int min2_int max_two min_two max_three min_three max_four min_four   -- for this text's walks alone
set_option linter.unusedVariables false
set_option linter.unusedSimpArgs false



def errW : Option Int → Value
  | none => .nilIface
  | some c => .iface 0 (.int .i64 c)
theorem errW_none : errW none = .nilIface := rfl
theorem errW_some (c : Int) : errW (some c) = .iface 0 (.int .i64 c) := rfl

theorem info3 : (Try.prog.info? 3).map (fun i => (i.zero, i.size, i.bytes)) = some (some (.int .i64 0), 1, 8) := by kernel_rfl
theorem info4 : (Try.prog.info? 4).map (fun i => (i.zero, i.size, i.bytes)) = some (some (.bool false), 1, 1) := by kernel_rfl
-- the values' own types

end Go.Proofs.Ytmnjomglpkbifaa.PFnConds
