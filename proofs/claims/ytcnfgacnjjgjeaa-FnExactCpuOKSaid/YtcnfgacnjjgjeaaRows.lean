/-
  No cell of these rows narrows 'for every input' (looked for: loops, veiled, ifaces, maps, wideKeys, modest, calm, conditions, laid).
  DERIVED. THE GIVEN ROWS OF THIS SEAT. 12 by the template 'for every input the law returns true; each argument reads behind the call as it read before'; 0 by the template 'total and deterministic' (their statements: YtcnfgacnjjgjeaaTotals.lean).
  GIVEN WITH THE SEED: the statements are not yours to turn. If you find one false, say at which input.
  Laid BY PROGRAM, IN A SANDBOX (cutbox-rows.mjs): the forced cells as the released guide's own fill.sh prints them over the translation a7083ef08fe3214f… (all of the seat's roots in one cut). By AI agents, Wed Nov 11 2026. No macro, syntax, notation, axiom, sorry.
-/
import Derived.Test.YtcnfgacnjjgjeaaChecked
import GoSem.Claim
import GoSem.ClaimJoined
import GoSem.ClaimMapViews
import Derived.JoinedTies
import Derived.KernelRfl
namespace Go.Proofs.Ytcnfgacnjjgjeaa
/- THE CELL 'sum', in the pinned program and in every row, IS THE sha256 OF THE DUMP (.gsa) THAT YtcnfgacnjjgjeaaProg.lean LOADS. Nothing in Lean hashes anything: it is a label: what it is worth is what the hold of that sum in a sandbox is worth. -/
noncomputable def Try.pinned : Pinned := { name := "ytcnfgacnjjgjeaa", sum := "a7083ef08fe3214f477ea5be8914dec802f56a0a90fcad6b8e95fb75a4653f12", checked := Try.checked }
namespace Rows
def none {H : Type} : Left H := { results := [], args := [] }

/-- 'laws.FnExactConstants': WHATEVER THE INPUT: true; the input reads as it did. -/
def fnExactConstantsSpec : ChangeSpec := { name := "fnExactConstants", fn := fun _ => fun
  | [] => { results := [.lit (.bool true)], args := [] }
  | _ => none }
def fnExactConstantsRow : OpenClaim := { program := "ytcnfgacnjjgjeaa", sum := "a7083ef08fe3214f477ea5be8914dec802f56a0a90fcad6b8e95fb75a4653f12", func := "loop.example/g00664/laws.FnExactConstants", spec := "fnExactConstants", apart := false }
def FnExactConstantsSaid : Prop := fnExactConstantsRow.holds Try.pinned (OpenSpec.ofChange fnExactConstantsSpec)

/-- ITS FALSE NEIGHBOUR: 'it returns false'. Refute it at one input. -/
def fnExactConstantsWrong : ChangeSpec := { name := "fnExactConstants", fn := fun _ => fun
  | [] => { results := [.lit (.bool false)], args := [] }
  | _ => none }
def FnExactConstantsWrongFalsely : Prop := fnExactConstantsRow.holds Try.pinned (OpenSpec.ofChange fnExactConstantsWrong)

/-- 'laws.FnExactBelowU': WHATEVER THE INPUT: true; the input reads as it did. -/
def fnExactBelowUSpec : ChangeSpec := { name := "fnExactBelowU", fn := fun _ => fun
  | [d1, d2] => { results := [.lit (.bool true)], args := [d1, d2] }
  | _ => none }
def fnExactBelowURow : OpenClaim := { program := "ytcnfgacnjjgjeaa", sum := "a7083ef08fe3214f477ea5be8914dec802f56a0a90fcad6b8e95fb75a4653f12", func := "loop.example/g00664/laws.FnExactBelowU", spec := "fnExactBelowU", apart := false }
def FnExactBelowUSaid : Prop := fnExactBelowURow.holds Try.pinned (OpenSpec.ofChange fnExactBelowUSpec)

/-- ITS FALSE NEIGHBOUR: 'it returns false'. Refute it at one input. -/
def fnExactBelowUWrong : ChangeSpec := { name := "fnExactBelowU", fn := fun _ => fun
  | [d1, d2] => { results := [.lit (.bool false)], args := [d1, d2] }
  | _ => none }
def FnExactBelowUWrongFalsely : Prop := fnExactBelowURow.holds Try.pinned (OpenSpec.ofChange fnExactBelowUWrong)

/-- 'laws.FnExactCpuOK': WHATEVER THE INPUT: true; the input reads as it did. -/
def fnExactCpuOKSpec : ChangeSpec := { name := "fnExactCpuOK", fn := fun _ => fun
  | [d] => { results := [.lit (.bool true)], args := [d] }
  | _ => none }
def fnExactCpuOKRow : OpenClaim := { program := "ytcnfgacnjjgjeaa", sum := "a7083ef08fe3214f477ea5be8914dec802f56a0a90fcad6b8e95fb75a4653f12", func := "loop.example/g00664/laws.FnExactCpuOK", spec := "fnExactCpuOK", apart := false }
def FnExactCpuOKSaid : Prop := fnExactCpuOKRow.holds Try.pinned (OpenSpec.ofChange fnExactCpuOKSpec)

/-- ITS FALSE NEIGHBOUR: 'it returns false'. Refute it at one input. -/
def fnExactCpuOKWrong : ChangeSpec := { name := "fnExactCpuOK", fn := fun _ => fun
  | [d] => { results := [.lit (.bool false)], args := [d] }
  | _ => none }
def FnExactCpuOKWrongFalsely : Prop := fnExactCpuOKRow.holds Try.pinned (OpenSpec.ofChange fnExactCpuOKWrong)

/-- 'laws.FnExactCodeWord': WHATEVER THE INPUT: true; the input reads as it did. -/
def fnExactCodeWordSpec : ChangeSpec := { name := "fnExactCodeWord", fn := fun _ => fun
  | [d] => { results := [.lit (.bool true)], args := [d] }
  | _ => none }
def fnExactCodeWordRow : OpenClaim := { program := "ytcnfgacnjjgjeaa", sum := "a7083ef08fe3214f477ea5be8914dec802f56a0a90fcad6b8e95fb75a4653f12", func := "loop.example/g00664/laws.FnExactCodeWord", spec := "fnExactCodeWord", apart := false }
def FnExactCodeWordSaid : Prop := fnExactCodeWordRow.holds Try.pinned (OpenSpec.ofChange fnExactCodeWordSpec)

/-- ITS FALSE NEIGHBOUR: 'it returns false'. Refute it at one input. -/
def fnExactCodeWordWrong : ChangeSpec := { name := "fnExactCodeWord", fn := fun _ => fun
  | [d] => { results := [.lit (.bool false)], args := [d] }
  | _ => none }
def FnExactCodeWordWrongFalsely : Prop := fnExactCodeWordRow.holds Try.pinned (OpenSpec.ofChange fnExactCodeWordWrong)

/-- 'laws.FnExactCondName': WHATEVER THE INPUT: true; the input reads as it did. -/
def fnExactCondNameSpec : ChangeSpec := { name := "fnExactCondName", fn := fun _ => fun
  | [d] => { results := [.lit (.bool true)], args := [d] }
  | _ => none }
def fnExactCondNameRow : OpenClaim := { program := "ytcnfgacnjjgjeaa", sum := "a7083ef08fe3214f477ea5be8914dec802f56a0a90fcad6b8e95fb75a4653f12", func := "loop.example/g00664/laws.FnExactCondName", spec := "fnExactCondName", apart := false }
def FnExactCondNameSaid : Prop := fnExactCondNameRow.holds Try.pinned (OpenSpec.ofChange fnExactCondNameSpec)

/-- ITS FALSE NEIGHBOUR: 'it returns false'. Refute it at one input. -/
def fnExactCondNameWrong : ChangeSpec := { name := "fnExactCondName", fn := fun _ => fun
  | [d] => { results := [.lit (.bool false)], args := [d] }
  | _ => none }
def FnExactCondNameWrongFalsely : Prop := fnExactCondNameRow.holds Try.pinned (OpenSpec.ofChange fnExactCondNameWrong)

/-- 'laws.FnExactCondOf': WHATEVER THE INPUT: true; the input reads as it did. -/
def fnExactCondOfSpec : ChangeSpec := { name := "fnExactCondOf", fn := fun _ => fun
  | [d] => { results := [.lit (.bool true)], args := [d] }
  | _ => none }
def fnExactCondOfRow : OpenClaim := { program := "ytcnfgacnjjgjeaa", sum := "a7083ef08fe3214f477ea5be8914dec802f56a0a90fcad6b8e95fb75a4653f12", func := "loop.example/g00664/laws.FnExactCondOf", spec := "fnExactCondOf", apart := false }
def FnExactCondOfSaid : Prop := fnExactCondOfRow.holds Try.pinned (OpenSpec.ofChange fnExactCondOfSpec)

/-- ITS FALSE NEIGHBOUR: 'it returns false'. Refute it at one input. -/
def fnExactCondOfWrong : ChangeSpec := { name := "fnExactCondOf", fn := fun _ => fun
  | [d] => { results := [.lit (.bool false)], args := [d] }
  | _ => none }
def FnExactCondOfWrongFalsely : Prop := fnExactCondOfRow.holds Try.pinned (OpenSpec.ofChange fnExactCondOfWrong)

/-- 'laws.FnExactOpName': WHATEVER THE INPUT: true; the input reads as it did. -/
def fnExactOpNameSpec : ChangeSpec := { name := "fnExactOpName", fn := fun _ => fun
  | [d] => { results := [.lit (.bool true)], args := [d] }
  | _ => none }
def fnExactOpNameRow : OpenClaim := { program := "ytcnfgacnjjgjeaa", sum := "a7083ef08fe3214f477ea5be8914dec802f56a0a90fcad6b8e95fb75a4653f12", func := "loop.example/g00664/laws.FnExactOpName", spec := "fnExactOpName", apart := false }
def FnExactOpNameSaid : Prop := fnExactOpNameRow.holds Try.pinned (OpenSpec.ofChange fnExactOpNameSpec)

/-- ITS FALSE NEIGHBOUR: 'it returns false'. Refute it at one input. -/
def fnExactOpNameWrong : ChangeSpec := { name := "fnExactOpName", fn := fun _ => fun
  | [d] => { results := [.lit (.bool false)], args := [d] }
  | _ => none }
def FnExactOpNameWrongFalsely : Prop := fnExactOpNameRow.holds Try.pinned (OpenSpec.ofChange fnExactOpNameWrong)

/-- 'laws.FnExactNameOK': WHATEVER THE INPUT: true; the input reads as it did. -/
def fnExactNameOKSpec : ChangeSpec := { name := "fnExactNameOK", fn := fun _ => fun
  | [d] => { results := [.lit (.bool true)], args := [d] }
  | _ => none }
def fnExactNameOKRow : OpenClaim := { program := "ytcnfgacnjjgjeaa", sum := "a7083ef08fe3214f477ea5be8914dec802f56a0a90fcad6b8e95fb75a4653f12", func := "loop.example/g00664/laws.FnExactNameOK", spec := "fnExactNameOK", apart := false }
def FnExactNameOKSaid : Prop := fnExactNameOKRow.holds Try.pinned (OpenSpec.ofChange fnExactNameOKSpec)

/-- ITS FALSE NEIGHBOUR: 'it returns false'. Refute it at one input. -/
def fnExactNameOKWrong : ChangeSpec := { name := "fnExactNameOK", fn := fun _ => fun
  | [d] => { results := [.lit (.bool false)], args := [d] }
  | _ => none }
def FnExactNameOKWrongFalsely : Prop := fnExactNameOKRow.holds Try.pinned (OpenSpec.ofChange fnExactNameOKWrong)

/-- 'laws.FnExactCodeOf': WHATEVER THE INPUT: true; the input reads as it did. -/
def fnExactCodeOfSpec : ChangeSpec := { name := "fnExactCodeOf", fn := fun _ => fun
  | [d] => { results := [.lit (.bool true)], args := [d] }
  | _ => none }
def fnExactCodeOfRow : OpenClaim := { program := "ytcnfgacnjjgjeaa", sum := "a7083ef08fe3214f477ea5be8914dec802f56a0a90fcad6b8e95fb75a4653f12", func := "loop.example/g00664/laws.FnExactCodeOf", spec := "fnExactCodeOf", apart := false }
def FnExactCodeOfSaid : Prop := fnExactCodeOfRow.holds Try.pinned (OpenSpec.ofChange fnExactCodeOfSpec)

/-- ITS FALSE NEIGHBOUR: 'it returns false'. Refute it at one input. -/
def fnExactCodeOfWrong : ChangeSpec := { name := "fnExactCodeOf", fn := fun _ => fun
  | [d] => { results := [.lit (.bool false)], args := [d] }
  | _ => none }
def FnExactCodeOfWrongFalsely : Prop := fnExactCodeOfRow.holds Try.pinned (OpenSpec.ofChange fnExactCodeOfWrong)

/-- 'laws.FnExactOpOf': WHATEVER THE INPUT: true; the input reads as it did. -/
def fnExactOpOfSpec : ChangeSpec := { name := "fnExactOpOf", fn := fun _ => fun
  | [d] => { results := [.lit (.bool true)], args := [d] }
  | _ => none }
def fnExactOpOfRow : OpenClaim := { program := "ytcnfgacnjjgjeaa", sum := "a7083ef08fe3214f477ea5be8914dec802f56a0a90fcad6b8e95fb75a4653f12", func := "loop.example/g00664/laws.FnExactOpOf", spec := "fnExactOpOf", apart := false }
def FnExactOpOfSaid : Prop := fnExactOpOfRow.holds Try.pinned (OpenSpec.ofChange fnExactOpOfSpec)

/-- ITS FALSE NEIGHBOUR: 'it returns false'. Refute it at one input. -/
def fnExactOpOfWrong : ChangeSpec := { name := "fnExactOpOf", fn := fun _ => fun
  | [d] => { results := [.lit (.bool false)], args := [d] }
  | _ => none }
def FnExactOpOfWrongFalsely : Prop := fnExactOpOfRow.holds Try.pinned (OpenSpec.ofChange fnExactOpOfWrong)

/-- 'laws.FnExactClassOf': WHATEVER THE INPUT: true; the input reads as it did. -/
def fnExactClassOfSpec : ChangeSpec := { name := "fnExactClassOf", fn := fun _ => fun
  | [d] => { results := [.lit (.bool true)], args := [d] }
  | _ => none }
def fnExactClassOfRow : OpenClaim := { program := "ytcnfgacnjjgjeaa", sum := "a7083ef08fe3214f477ea5be8914dec802f56a0a90fcad6b8e95fb75a4653f12", func := "loop.example/g00664/laws.FnExactClassOf", spec := "fnExactClassOf", apart := false }
def FnExactClassOfSaid : Prop := fnExactClassOfRow.holds Try.pinned (OpenSpec.ofChange fnExactClassOfSpec)

/-- ITS FALSE NEIGHBOUR: 'it returns false'. Refute it at one input. -/
def fnExactClassOfWrong : ChangeSpec := { name := "fnExactClassOf", fn := fun _ => fun
  | [d] => { results := [.lit (.bool false)], args := [d] }
  | _ => none }
def FnExactClassOfWrongFalsely : Prop := fnExactClassOfRow.holds Try.pinned (OpenSpec.ofChange fnExactClassOfWrong)

/-- 'laws.FnExactGroupOp': WHATEVER THE INPUT: true; the input reads as it did. -/
def fnExactGroupOpSpec : ChangeSpec := { name := "fnExactGroupOp", fn := fun _ => fun
  | [d1, d2] => { results := [.lit (.bool true)], args := [d1, d2] }
  | _ => none }
def fnExactGroupOpRow : OpenClaim := { program := "ytcnfgacnjjgjeaa", sum := "a7083ef08fe3214f477ea5be8914dec802f56a0a90fcad6b8e95fb75a4653f12", func := "loop.example/g00664/laws.FnExactGroupOp", spec := "fnExactGroupOp", apart := false }
def FnExactGroupOpSaid : Prop := fnExactGroupOpRow.holds Try.pinned (OpenSpec.ofChange fnExactGroupOpSpec)

/-- ITS FALSE NEIGHBOUR: 'it returns false'. Refute it at one input. -/
def fnExactGroupOpWrong : ChangeSpec := { name := "fnExactGroupOp", fn := fun _ => fun
  | [d1, d2] => { results := [.lit (.bool false)], args := [d1, d2] }
  | _ => none }
def FnExactGroupOpWrongFalsely : Prop := fnExactGroupOpRow.holds Try.pinned (OpenSpec.ofChange fnExactGroupOpWrong)

/- THE SECOND FORM. 'bulk': how many values and letters a reading holds, each counted each time it is reached (what is shared counts as often as it is met; a slice's spare places count too). A statement '..UptoSaid' is the law's where the arguments, and the package variables that the reading takes, are together of bulk at most 1048576: NARROWER than '..Said'. Prove '..Said' where nothing that the law and all that it calls make is longer than what came in: it says more and counts as full. Else prove '..UptoSaid'. A law counts once. -/
mutual
def uptoBulk {H : Type} : DataW H → Nat
  | .lit (.string bytes) => bytes.length + 1
  | .lit _ => 1
  | .nil => 1
  | .ptr d => uptoBulk d + 1
  | .slice elems spare => uptoBulkAll elems + uptoBulkAll spare + 1
  | .agg parts => uptoBulkAll parts + 1
  | .iface _ d => uptoBulk d + 1
  | .map entries => uptoBulkEntries entries + 1
  | .held _ => 1
def uptoBulkAll {H : Type} : List (DataW H) → Nat
  | [] => 0
  | d :: r => uptoBulk d + uptoBulkAll r
def uptoBulkEntries {H : Type} : List (Lit × DataW H) → Nat
  | [] => 0
  | x :: r => uptoBulkEntry x + uptoBulkEntries r
def uptoBulkEntry {H : Type} : Lit × DataW H → Nat
  | (.string bytes, d) => bytes.length + uptoBulk d + 1
  | (_, d) => uptoBulk d + 1
 end
def uptoSmall : (H : Type) → List (DataW H) → Bool := fun _ ds => decide (uptoBulkAll ds ≤ 1048576)
def OpenSpec.upto (s : _root_.Go.ChangeSpec) : _root_.Go.OpenSpec := { _root_.Go.OpenSpec.ofChange s with cond := some uptoSmall }

/-- 'laws.FnExactConstants', WHERE WHAT IT READS IS OF BULK AT MOST 1048576: true; the input reads as it did. -/
def fnExactConstantsUptoRow : OpenClaim := { program := "ytcnfgacnjjgjeaa", sum := "a7083ef08fe3214f477ea5be8914dec802f56a0a90fcad6b8e95fb75a4653f12", func := "loop.example/g00664/laws.FnExactConstants", spec := "fnExactConstants", apart := false, narrowed := true }
def FnExactConstantsUptoSaid : Prop := fnExactConstantsUptoRow.holds Try.pinned (OpenSpec.upto fnExactConstantsSpec)

/-- 'laws.FnExactBelowU', WHERE WHAT IT READS IS OF BULK AT MOST 1048576: true; the input reads as it did. -/
def fnExactBelowUUptoRow : OpenClaim := { program := "ytcnfgacnjjgjeaa", sum := "a7083ef08fe3214f477ea5be8914dec802f56a0a90fcad6b8e95fb75a4653f12", func := "loop.example/g00664/laws.FnExactBelowU", spec := "fnExactBelowU", apart := false, narrowed := true }
def FnExactBelowUUptoSaid : Prop := fnExactBelowUUptoRow.holds Try.pinned (OpenSpec.upto fnExactBelowUSpec)

/-- 'laws.FnExactCpuOK', WHERE WHAT IT READS IS OF BULK AT MOST 1048576: true; the input reads as it did. -/
def fnExactCpuOKUptoRow : OpenClaim := { program := "ytcnfgacnjjgjeaa", sum := "a7083ef08fe3214f477ea5be8914dec802f56a0a90fcad6b8e95fb75a4653f12", func := "loop.example/g00664/laws.FnExactCpuOK", spec := "fnExactCpuOK", apart := false, narrowed := true }
def FnExactCpuOKUptoSaid : Prop := fnExactCpuOKUptoRow.holds Try.pinned (OpenSpec.upto fnExactCpuOKSpec)

/-- 'laws.FnExactCodeWord', WHERE WHAT IT READS IS OF BULK AT MOST 1048576: true; the input reads as it did. -/
def fnExactCodeWordUptoRow : OpenClaim := { program := "ytcnfgacnjjgjeaa", sum := "a7083ef08fe3214f477ea5be8914dec802f56a0a90fcad6b8e95fb75a4653f12", func := "loop.example/g00664/laws.FnExactCodeWord", spec := "fnExactCodeWord", apart := false, narrowed := true }
def FnExactCodeWordUptoSaid : Prop := fnExactCodeWordUptoRow.holds Try.pinned (OpenSpec.upto fnExactCodeWordSpec)

/-- 'laws.FnExactCondName', WHERE WHAT IT READS IS OF BULK AT MOST 1048576: true; the input reads as it did. -/
def fnExactCondNameUptoRow : OpenClaim := { program := "ytcnfgacnjjgjeaa", sum := "a7083ef08fe3214f477ea5be8914dec802f56a0a90fcad6b8e95fb75a4653f12", func := "loop.example/g00664/laws.FnExactCondName", spec := "fnExactCondName", apart := false, narrowed := true }
def FnExactCondNameUptoSaid : Prop := fnExactCondNameUptoRow.holds Try.pinned (OpenSpec.upto fnExactCondNameSpec)

/-- 'laws.FnExactCondOf', WHERE WHAT IT READS IS OF BULK AT MOST 1048576: true; the input reads as it did. -/
def fnExactCondOfUptoRow : OpenClaim := { program := "ytcnfgacnjjgjeaa", sum := "a7083ef08fe3214f477ea5be8914dec802f56a0a90fcad6b8e95fb75a4653f12", func := "loop.example/g00664/laws.FnExactCondOf", spec := "fnExactCondOf", apart := false, narrowed := true }
def FnExactCondOfUptoSaid : Prop := fnExactCondOfUptoRow.holds Try.pinned (OpenSpec.upto fnExactCondOfSpec)

/-- 'laws.FnExactOpName', WHERE WHAT IT READS IS OF BULK AT MOST 1048576: true; the input reads as it did. -/
def fnExactOpNameUptoRow : OpenClaim := { program := "ytcnfgacnjjgjeaa", sum := "a7083ef08fe3214f477ea5be8914dec802f56a0a90fcad6b8e95fb75a4653f12", func := "loop.example/g00664/laws.FnExactOpName", spec := "fnExactOpName", apart := false, narrowed := true }
def FnExactOpNameUptoSaid : Prop := fnExactOpNameUptoRow.holds Try.pinned (OpenSpec.upto fnExactOpNameSpec)

/-- 'laws.FnExactNameOK', WHERE WHAT IT READS IS OF BULK AT MOST 1048576: true; the input reads as it did. -/
def fnExactNameOKUptoRow : OpenClaim := { program := "ytcnfgacnjjgjeaa", sum := "a7083ef08fe3214f477ea5be8914dec802f56a0a90fcad6b8e95fb75a4653f12", func := "loop.example/g00664/laws.FnExactNameOK", spec := "fnExactNameOK", apart := false, narrowed := true }
def FnExactNameOKUptoSaid : Prop := fnExactNameOKUptoRow.holds Try.pinned (OpenSpec.upto fnExactNameOKSpec)

/-- 'laws.FnExactCodeOf', WHERE WHAT IT READS IS OF BULK AT MOST 1048576: true; the input reads as it did. -/
def fnExactCodeOfUptoRow : OpenClaim := { program := "ytcnfgacnjjgjeaa", sum := "a7083ef08fe3214f477ea5be8914dec802f56a0a90fcad6b8e95fb75a4653f12", func := "loop.example/g00664/laws.FnExactCodeOf", spec := "fnExactCodeOf", apart := false, narrowed := true }
def FnExactCodeOfUptoSaid : Prop := fnExactCodeOfUptoRow.holds Try.pinned (OpenSpec.upto fnExactCodeOfSpec)

/-- 'laws.FnExactOpOf', WHERE WHAT IT READS IS OF BULK AT MOST 1048576: true; the input reads as it did. -/
def fnExactOpOfUptoRow : OpenClaim := { program := "ytcnfgacnjjgjeaa", sum := "a7083ef08fe3214f477ea5be8914dec802f56a0a90fcad6b8e95fb75a4653f12", func := "loop.example/g00664/laws.FnExactOpOf", spec := "fnExactOpOf", apart := false, narrowed := true }
def FnExactOpOfUptoSaid : Prop := fnExactOpOfUptoRow.holds Try.pinned (OpenSpec.upto fnExactOpOfSpec)

/-- 'laws.FnExactClassOf', WHERE WHAT IT READS IS OF BULK AT MOST 1048576: true; the input reads as it did. -/
def fnExactClassOfUptoRow : OpenClaim := { program := "ytcnfgacnjjgjeaa", sum := "a7083ef08fe3214f477ea5be8914dec802f56a0a90fcad6b8e95fb75a4653f12", func := "loop.example/g00664/laws.FnExactClassOf", spec := "fnExactClassOf", apart := false, narrowed := true }
def FnExactClassOfUptoSaid : Prop := fnExactClassOfUptoRow.holds Try.pinned (OpenSpec.upto fnExactClassOfSpec)

/-- 'laws.FnExactGroupOp', WHERE WHAT IT READS IS OF BULK AT MOST 1048576: true; the input reads as it did. -/
def fnExactGroupOpUptoRow : OpenClaim := { program := "ytcnfgacnjjgjeaa", sum := "a7083ef08fe3214f477ea5be8914dec802f56a0a90fcad6b8e95fb75a4653f12", func := "loop.example/g00664/laws.FnExactGroupOp", spec := "fnExactGroupOp", apart := false, narrowed := true }
def FnExactGroupOpUptoSaid : Prop := fnExactGroupOpUptoRow.holds Try.pinned (OpenSpec.upto fnExactGroupOpSpec)

end Rows
end Go.Proofs.Ytcnfgacnjjgjeaa
