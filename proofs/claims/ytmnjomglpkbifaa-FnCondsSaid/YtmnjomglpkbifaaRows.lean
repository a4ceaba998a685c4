/-
  No cell of these rows narrows 'for every input' (looked for: loops, veiled, ifaces, maps, wideKeys, modest, calm, conditions, laid).
  DERIVED. THE GIVEN ROWS OF THIS SEAT. 12 by the template 'for every input the law returns true; each argument reads behind the call as it read before'; 0 by the template 'total and deterministic' (their statements: YtmnjomglpkbifaaTotals.lean).
  GIVEN WITH THE SEED: the statements are not yours to turn. If you find one false, say at which input.
  Laid BY PROGRAM, IN A SANDBOX (cutbox-rows.mjs): the forced cells as the released guide's own fill.sh prints them over the translation dc00e5b3ba20f385… (all of the seat's roots in one cut). By AI agents, Wed Nov 11 2026. No macro, syntax, notation, axiom, sorry.
-/
import Derived.Test.YtmnjomglpkbifaaChecked
import GoSem.Claim
import GoSem.ClaimJoined
import GoSem.ClaimMapViews
import Derived.JoinedTies
import Derived.KernelRfl
namespace Go.Proofs.Ytmnjomglpkbifaa
/- THE CELL 'sum', in the pinned program and in every row, IS THE sha256 OF THE DUMP (.gsa) THAT YtmnjomglpkbifaaProg.lean LOADS. Nothing in Lean hashes anything: it is a label: what it is worth is what the hold of that sum in a sandbox is worth. -/
noncomputable def Try.pinned : Pinned := { name := "ytmnjomglpkbifaa", sum := "dc00e5b3ba20f3855e506ee58671c56b2d1134cac945b2fecc6ae0b4376e757e", checked := Try.checked }
namespace Rows
def none {H : Type} : Left H := { results := [], args := [] }

/-- 'laws.FnExactHexOf': WHATEVER THE INPUT: true; the input reads as it did. -/
def fnExactHexOfSpec : ChangeSpec := { name := "fnExactHexOf", fn := fun _ => fun
  | [d] => { results := [.lit (.bool true)], args := [d] }
  | _ => none }
def fnExactHexOfRow : OpenClaim := { program := "ytmnjomglpkbifaa", sum := "dc00e5b3ba20f3855e506ee58671c56b2d1134cac945b2fecc6ae0b4376e757e", func := "loop.example/g00664/laws.FnExactHexOf", spec := "fnExactHexOf", apart := false }
def FnExactHexOfSaid : Prop := fnExactHexOfRow.holds Try.pinned (OpenSpec.ofChange fnExactHexOfSpec)

/-- ITS FALSE NEIGHBOUR: 'it returns false'. Refute it at one input. -/
def fnExactHexOfWrong : ChangeSpec := { name := "fnExactHexOf", fn := fun _ => fun
  | [d] => { results := [.lit (.bool false)], args := [d] }
  | _ => none }
def FnExactHexOfWrongFalsely : Prop := fnExactHexOfRow.holds Try.pinned (OpenSpec.ofChange fnExactHexOfWrong)

/-- 'laws.FnExactPutLittle': WHATEVER THE INPUT: true; the input reads as it did. -/
def fnExactPutLittleSpec : ChangeSpec := { name := "fnExactPutLittle", fn := fun _ => fun
  | [d1, d2] => { results := [.lit (.bool true)], args := [d1, d2] }
  | _ => none }
def fnExactPutLittleRow : OpenClaim := { program := "ytmnjomglpkbifaa", sum := "dc00e5b3ba20f3855e506ee58671c56b2d1134cac945b2fecc6ae0b4376e757e", func := "loop.example/g00664/laws.FnExactPutLittle", spec := "fnExactPutLittle", apart := false }
def FnExactPutLittleSaid : Prop := fnExactPutLittleRow.holds Try.pinned (OpenSpec.ofChange fnExactPutLittleSpec)

/-- ITS FALSE NEIGHBOUR: 'it returns false'. Refute it at one input. -/
def fnExactPutLittleWrong : ChangeSpec := { name := "fnExactPutLittle", fn := fun _ => fun
  | [d1, d2] => { results := [.lit (.bool false)], args := [d1, d2] }
  | _ => none }
def FnExactPutLittleWrongFalsely : Prop := fnExactPutLittleRow.holds Try.pinned (OpenSpec.ofChange fnExactPutLittleWrong)

/-- 'laws.FnExactSignOf': WHATEVER THE INPUT: true; the input reads as it did. -/
def fnExactSignOfSpec : ChangeSpec := { name := "fnExactSignOf", fn := fun _ => fun
  | [d1, d2] => { results := [.lit (.bool true)], args := [d1, d2] }
  | _ => none }
def fnExactSignOfRow : OpenClaim := { program := "ytmnjomglpkbifaa", sum := "dc00e5b3ba20f3855e506ee58671c56b2d1134cac945b2fecc6ae0b4376e757e", func := "loop.example/g00664/laws.FnExactSignOf", spec := "fnExactSignOf", apart := false }
def FnExactSignOfSaid : Prop := fnExactSignOfRow.holds Try.pinned (OpenSpec.ofChange fnExactSignOfSpec)

/-- ITS FALSE NEIGHBOUR: 'it returns false'. Refute it at one input. -/
def fnExactSignOfWrong : ChangeSpec := { name := "fnExactSignOf", fn := fun _ => fun
  | [d1, d2] => { results := [.lit (.bool false)], args := [d1, d2] }
  | _ => none }
def FnExactSignOfWrongFalsely : Prop := fnExactSignOfRow.holds Try.pinned (OpenSpec.ofChange fnExactSignOfWrong)

/-- 'laws.FnExactHolds': WHATEVER THE INPUT: true; the input reads as it did. -/
def fnExactHoldsSpec : ChangeSpec := { name := "fnExactHolds", fn := fun _ => fun
  | [d1, d2] => { results := [.lit (.bool true)], args := [d1, d2] }
  | _ => none }
def fnExactHoldsRow : OpenClaim := { program := "ytmnjomglpkbifaa", sum := "dc00e5b3ba20f3855e506ee58671c56b2d1134cac945b2fecc6ae0b4376e757e", func := "loop.example/g00664/laws.FnExactHolds", spec := "fnExactHolds", unfollowed := true, recurses := true, apart := false }
def FnExactHoldsSaid : Prop := fnExactHoldsRow.holds Try.pinned (OpenSpec.ofChange fnExactHoldsSpec)

/-- ITS FALSE NEIGHBOUR: 'it returns false'. Refute it at one input. -/
def fnExactHoldsWrong : ChangeSpec := { name := "fnExactHolds", fn := fun _ => fun
  | [d1, d2] => { results := [.lit (.bool false)], args := [d1, d2] }
  | _ => none }
def FnExactHoldsWrongFalsely : Prop := fnExactHoldsRow.holds Try.pinned (OpenSpec.ofChange fnExactHoldsWrong)

/-- 'laws.FnExactZeroOf': WHATEVER THE INPUT: true; the input reads as it did. -/
def fnExactZeroOfSpec : ChangeSpec := { name := "fnExactZeroOf", fn := fun _ => fun
  | [d1, d2] => { results := [.lit (.bool true)], args := [d1, d2] }
  | _ => none }
def fnExactZeroOfRow : OpenClaim := { program := "ytmnjomglpkbifaa", sum := "dc00e5b3ba20f3855e506ee58671c56b2d1134cac945b2fecc6ae0b4376e757e", func := "loop.example/g00664/laws.FnExactZeroOf", spec := "fnExactZeroOf", apart := false }
def FnExactZeroOfSaid : Prop := fnExactZeroOfRow.holds Try.pinned (OpenSpec.ofChange fnExactZeroOfSpec)

/-- ITS FALSE NEIGHBOUR: 'it returns false'. Refute it at one input. -/
def fnExactZeroOfWrong : ChangeSpec := { name := "fnExactZeroOf", fn := fun _ => fun
  | [d1, d2] => { results := [.lit (.bool false)], args := [d1, d2] }
  | _ => none }
def FnExactZeroOfWrongFalsely : Prop := fnExactZeroOfRow.holds Try.pinned (OpenSpec.ofChange fnExactZeroOfWrong)

/-- 'laws.FnExactMulWide': WHATEVER THE INPUT: true; the input reads as it did. -/
def fnExactMulWideSpec : ChangeSpec := { name := "fnExactMulWide", fn := fun _ => fun
  | [d1, d2] => { results := [.lit (.bool true)], args := [d1, d2] }
  | _ => none }
def fnExactMulWideRow : OpenClaim := { program := "ytmnjomglpkbifaa", sum := "dc00e5b3ba20f3855e506ee58671c56b2d1134cac945b2fecc6ae0b4376e757e", func := "loop.example/g00664/laws.FnExactMulWide", spec := "fnExactMulWide", apart := false }
def FnExactMulWideSaid : Prop := fnExactMulWideRow.holds Try.pinned (OpenSpec.ofChange fnExactMulWideSpec)

/-- ITS FALSE NEIGHBOUR: 'it returns false'. Refute it at one input. -/
def fnExactMulWideWrong : ChangeSpec := { name := "fnExactMulWide", fn := fun _ => fun
  | [d1, d2] => { results := [.lit (.bool false)], args := [d1, d2] }
  | _ => none }
def FnExactMulWideWrongFalsely : Prop := fnExactMulWideRow.holds Try.pinned (OpenSpec.ofChange fnExactMulWideWrong)

/-- 'laws.FnExactTakeLittle': WHATEVER THE INPUT: true; the input reads as it did. -/
def fnExactTakeLittleSpec : ChangeSpec := { name := "fnExactTakeLittle", fn := fun _ => fun
  | [d1, d2, d3] => { results := [.lit (.bool true)], args := [d1, d2, d3] }
  | _ => none }
def fnExactTakeLittleRow : OpenClaim := { program := "ytmnjomglpkbifaa", sum := "dc00e5b3ba20f3855e506ee58671c56b2d1134cac945b2fecc6ae0b4376e757e", func := "loop.example/g00664/laws.FnExactTakeLittle", spec := "fnExactTakeLittle", apart := false }
def FnExactTakeLittleSaid : Prop := fnExactTakeLittleRow.holds Try.pinned (OpenSpec.ofChange fnExactTakeLittleSpec)

/-- ITS FALSE NEIGHBOUR: 'it returns false'. Refute it at one input. -/
def fnExactTakeLittleWrong : ChangeSpec := { name := "fnExactTakeLittle", fn := fun _ => fun
  | [d1, d2, d3] => { results := [.lit (.bool false)], args := [d1, d2, d3] }
  | _ => none }
def FnExactTakeLittleWrongFalsely : Prop := fnExactTakeLittleRow.holds Try.pinned (OpenSpec.ofChange fnExactTakeLittleWrong)

/-- 'laws.FnExactFlagsOf': WHATEVER THE INPUT: true; the input reads as it did. -/
def fnExactFlagsOfSpec : ChangeSpec := { name := "fnExactFlagsOf", fn := fun _ => fun
  | [d1, d2] => { results := [.lit (.bool true)], args := [d1, d2] }
  | _ => none }
def fnExactFlagsOfRow : OpenClaim := { program := "ytmnjomglpkbifaa", sum := "dc00e5b3ba20f3855e506ee58671c56b2d1134cac945b2fecc6ae0b4376e757e", func := "loop.example/g00664/laws.FnExactFlagsOf", spec := "fnExactFlagsOf", apart := false }
def FnExactFlagsOfSaid : Prop := fnExactFlagsOfRow.holds Try.pinned (OpenSpec.ofChange fnExactFlagsOfSpec)

/-- ITS FALSE NEIGHBOUR: 'it returns false'. Refute it at one input. -/
def fnExactFlagsOfWrong : ChangeSpec := { name := "fnExactFlagsOf", fn := fun _ => fun
  | [d1, d2] => { results := [.lit (.bool false)], args := [d1, d2] }
  | _ => none }
def FnExactFlagsOfWrongFalsely : Prop := fnExactFlagsOfRow.holds Try.pinned (OpenSpec.ofChange fnExactFlagsOfWrong)

/-- 'laws.FnExactBytesOf': WHATEVER THE INPUT: true; the input reads as it did. -/
def fnExactBytesOfSpec : ChangeSpec := { name := "fnExactBytesOf", fn := fun _ => fun
  | [d] => { results := [.lit (.bool true)], args := [d] }
  | _ => none }
def fnExactBytesOfRow : OpenClaim := { program := "ytmnjomglpkbifaa", sum := "dc00e5b3ba20f3855e506ee58671c56b2d1134cac945b2fecc6ae0b4376e757e", func := "loop.example/g00664/laws.FnExactBytesOf", spec := "fnExactBytesOf", apart := false }
def FnExactBytesOfSaid : Prop := fnExactBytesOfRow.holds Try.pinned (OpenSpec.ofChange fnExactBytesOfSpec)

/-- ITS FALSE NEIGHBOUR: 'it returns false'. Refute it at one input. -/
def fnExactBytesOfWrong : ChangeSpec := { name := "fnExactBytesOf", fn := fun _ => fun
  | [d] => { results := [.lit (.bool false)], args := [d] }
  | _ => none }
def FnExactBytesOfWrongFalsely : Prop := fnExactBytesOfRow.holds Try.pinned (OpenSpec.ofChange fnExactBytesOfWrong)

/-- 'laws.FnConds': WHATEVER THE INPUT: true; the input reads as it did. -/
def fnCondsSpec : ChangeSpec := { name := "fnConds", fn := fun _ => fun
  | [d] => { results := [.lit (.bool true)], args := [d] }
  | _ => none }
def fnCondsRow : OpenClaim := { program := "ytmnjomglpkbifaa", sum := "dc00e5b3ba20f3855e506ee58671c56b2d1134cac945b2fecc6ae0b4376e757e", func := "loop.example/g00664/laws.FnConds", spec := "fnConds", unfollowed := true, recurses := true, apart := false }
def FnCondsSaid : Prop := fnCondsRow.holds Try.pinned (OpenSpec.ofChange fnCondsSpec)

/-- ITS FALSE NEIGHBOUR: 'it returns false'. Refute it at one input. -/
def fnCondsWrong : ChangeSpec := { name := "fnConds", fn := fun _ => fun
  | [d] => { results := [.lit (.bool false)], args := [d] }
  | _ => none }
def FnCondsWrongFalsely : Prop := fnCondsRow.holds Try.pinned (OpenSpec.ofChange fnCondsWrong)

/-- 'laws.FnHex': WHATEVER THE INPUT: true; the input reads as it did. -/
def fnHexSpec : ChangeSpec := { name := "fnHex", fn := fun _ => fun
  | [d1, d2] => { results := [.lit (.bool true)], args := [d1, d2] }
  | _ => none }
def fnHexRow : OpenClaim := { program := "ytmnjomglpkbifaa", sum := "dc00e5b3ba20f3855e506ee58671c56b2d1134cac945b2fecc6ae0b4376e757e", func := "loop.example/g00664/laws.FnHex", spec := "fnHex", apart := false }
def FnHexSaid : Prop := fnHexRow.holds Try.pinned (OpenSpec.ofChange fnHexSpec)

/-- ITS FALSE NEIGHBOUR: 'it returns false'. Refute it at one input. -/
def fnHexWrong : ChangeSpec := { name := "fnHex", fn := fun _ => fun
  | [d1, d2] => { results := [.lit (.bool false)], args := [d1, d2] }
  | _ => none }
def FnHexWrongFalsely : Prop := fnHexRow.holds Try.pinned (OpenSpec.ofChange fnHexWrong)

/-- 'laws.FnExactDivideWide': WHATEVER THE INPUT: true; the input reads as it did. -/
def fnExactDivideWideSpec : ChangeSpec := { name := "fnExactDivideWide", fn := fun _ => fun
  | [d1, d2, d3] => { results := [.lit (.bool true)], args := [d1, d2, d3] }
  | _ => none }
def fnExactDivideWideRow : OpenClaim := { program := "ytmnjomglpkbifaa", sum := "dc00e5b3ba20f3855e506ee58671c56b2d1134cac945b2fecc6ae0b4376e757e", func := "loop.example/g00664/laws.FnExactDivideWide", spec := "fnExactDivideWide", named := ["math/bits.divideError", "math/bits.overflowError"], apart := false }
def FnExactDivideWideSaid : Prop := fnExactDivideWideRow.holds Try.pinned (OpenSpec.ofChange fnExactDivideWideSpec)

/-- ITS FALSE NEIGHBOUR: 'it returns false'. Refute it at one input. -/
def fnExactDivideWideWrong : ChangeSpec := { name := "fnExactDivideWide", fn := fun _ => fun
  | [d1, d2, d3] => { results := [.lit (.bool false)], args := [d1, d2, d3] }
  | _ => none }
def FnExactDivideWideWrongFalsely : Prop := fnExactDivideWideRow.holds Try.pinned (OpenSpec.ofChange fnExactDivideWideWrong)

/- THE SECOND FORM. 'bulk': how many values and letters a reading holds, each counted each time it is reached (what is shared counts as often as it is met; a slice's spare places count too). A statement '..UptoSaid' is the law's where the arguments, and the package variables that the reading takes, are together of bulk at most 1048576: NARROWER than '..Said'. Prove '..Said' where nothing that the law and all that it calls make is longer than what came in: it says more and counts as full. Else prove '..UptoSaid'. A law counts once. -/
mutual
def uptoBulk {H : Type} : DataW H → Nat
  | .lit (.string bytes) => bytes.length + 1
  | .lit _ => 1
  | .nil => 1
  | .ptr d => uptoBulk d + 1
  | .slice elems spare => uptoBulkAll elems + uptoBulkAll spare + 1
  | .agg parts => uptoBulkAll parts + 1
  | .iface _ d => uptoBulk d + 1
  | .map entries => uptoBulkEntries entries + 1
  | .held _ => 1
def uptoBulkAll {H : Type} : List (DataW H) → Nat
  | [] => 0
  | d :: r => uptoBulk d + uptoBulkAll r
def uptoBulkEntries {H : Type} : List (Lit × DataW H) → Nat
  | [] => 0
  | x :: r => uptoBulkEntry x + uptoBulkEntries r
def uptoBulkEntry {H : Type} : Lit × DataW H → Nat
  | (.string bytes, d) => bytes.length + uptoBulk d + 1
  | (_, d) => uptoBulk d + 1
 end
def uptoSmall : (H : Type) → List (DataW H) → Bool := fun _ ds => decide (uptoBulkAll ds ≤ 1048576)
def OpenSpec.upto (s : _root_.Go.ChangeSpec) : _root_.Go.OpenSpec := { _root_.Go.OpenSpec.ofChange s with cond := some uptoSmall }

/-- 'laws.FnExactHexOf', WHERE WHAT IT READS IS OF BULK AT MOST 1048576: true; the input reads as it did. -/
def fnExactHexOfUptoRow : OpenClaim := { program := "ytmnjomglpkbifaa", sum := "dc00e5b3ba20f3855e506ee58671c56b2d1134cac945b2fecc6ae0b4376e757e", func := "loop.example/g00664/laws.FnExactHexOf", spec := "fnExactHexOf", apart := false, narrowed := true }
def FnExactHexOfUptoSaid : Prop := fnExactHexOfUptoRow.holds Try.pinned (OpenSpec.upto fnExactHexOfSpec)

/-- 'laws.FnExactPutLittle', WHERE WHAT IT READS IS OF BULK AT MOST 1048576: true; the input reads as it did. -/
def fnExactPutLittleUptoRow : OpenClaim := { program := "ytmnjomglpkbifaa", sum := "dc00e5b3ba20f3855e506ee58671c56b2d1134cac945b2fecc6ae0b4376e757e", func := "loop.example/g00664/laws.FnExactPutLittle", spec := "fnExactPutLittle", apart := false, narrowed := true }
def FnExactPutLittleUptoSaid : Prop := fnExactPutLittleUptoRow.holds Try.pinned (OpenSpec.upto fnExactPutLittleSpec)

/-- 'laws.FnExactSignOf', WHERE WHAT IT READS IS OF BULK AT MOST 1048576: true; the input reads as it did. -/
def fnExactSignOfUptoRow : OpenClaim := { program := "ytmnjomglpkbifaa", sum := "dc00e5b3ba20f3855e506ee58671c56b2d1134cac945b2fecc6ae0b4376e757e", func := "loop.example/g00664/laws.FnExactSignOf", spec := "fnExactSignOf", apart := false, narrowed := true }
def FnExactSignOfUptoSaid : Prop := fnExactSignOfUptoRow.holds Try.pinned (OpenSpec.upto fnExactSignOfSpec)

/-- 'laws.FnExactHolds', WHERE WHAT IT READS IS OF BULK AT MOST 1048576: true; the input reads as it did. -/
def fnExactHoldsUptoRow : OpenClaim := { program := "ytmnjomglpkbifaa", sum := "dc00e5b3ba20f3855e506ee58671c56b2d1134cac945b2fecc6ae0b4376e757e", func := "loop.example/g00664/laws.FnExactHolds", spec := "fnExactHolds", unfollowed := true, recurses := true, apart := false, narrowed := true }
def FnExactHoldsUptoSaid : Prop := fnExactHoldsUptoRow.holds Try.pinned (OpenSpec.upto fnExactHoldsSpec)

/-- 'laws.FnExactZeroOf', WHERE WHAT IT READS IS OF BULK AT MOST 1048576: true; the input reads as it did. -/
def fnExactZeroOfUptoRow : OpenClaim := { program := "ytmnjomglpkbifaa", sum := "dc00e5b3ba20f3855e506ee58671c56b2d1134cac945b2fecc6ae0b4376e757e", func := "loop.example/g00664/laws.FnExactZeroOf", spec := "fnExactZeroOf", apart := false, narrowed := true }
def FnExactZeroOfUptoSaid : Prop := fnExactZeroOfUptoRow.holds Try.pinned (OpenSpec.upto fnExactZeroOfSpec)

/-- 'laws.FnExactMulWide', WHERE WHAT IT READS IS OF BULK AT MOST 1048576: true; the input reads as it did. -/
def fnExactMulWideUptoRow : OpenClaim := { program := "ytmnjomglpkbifaa", sum := "dc00e5b3ba20f3855e506ee58671c56b2d1134cac945b2fecc6ae0b4376e757e", func := "loop.example/g00664/laws.FnExactMulWide", spec := "fnExactMulWide", apart := false, narrowed := true }
def FnExactMulWideUptoSaid : Prop := fnExactMulWideUptoRow.holds Try.pinned (OpenSpec.upto fnExactMulWideSpec)

/-- 'laws.FnExactTakeLittle', WHERE WHAT IT READS IS OF BULK AT MOST 1048576: true; the input reads as it did. -/
def fnExactTakeLittleUptoRow : OpenClaim := { program := "ytmnjomglpkbifaa", sum := "dc00e5b3ba20f3855e506ee58671c56b2d1134cac945b2fecc6ae0b4376e757e", func := "loop.example/g00664/laws.FnExactTakeLittle", spec := "fnExactTakeLittle", apart := false, narrowed := true }
def FnExactTakeLittleUptoSaid : Prop := fnExactTakeLittleUptoRow.holds Try.pinned (OpenSpec.upto fnExactTakeLittleSpec)

/-- 'laws.FnExactFlagsOf', WHERE WHAT IT READS IS OF BULK AT MOST 1048576: true; the input reads as it did. -/
def fnExactFlagsOfUptoRow : OpenClaim := { program := "ytmnjomglpkbifaa", sum := "dc00e5b3ba20f3855e506ee58671c56b2d1134cac945b2fecc6ae0b4376e757e", func := "loop.example/g00664/laws.FnExactFlagsOf", spec := "fnExactFlagsOf", apart := false, narrowed := true }
def FnExactFlagsOfUptoSaid : Prop := fnExactFlagsOfUptoRow.holds Try.pinned (OpenSpec.upto fnExactFlagsOfSpec)

/-- 'laws.FnExactBytesOf', WHERE WHAT IT READS IS OF BULK AT MOST 1048576: true; the input reads as it did. -/
def fnExactBytesOfUptoRow : OpenClaim := { program := "ytmnjomglpkbifaa", sum := "dc00e5b3ba20f3855e506ee58671c56b2d1134cac945b2fecc6ae0b4376e757e", func := "loop.example/g00664/laws.FnExactBytesOf", spec := "fnExactBytesOf", apart := false, narrowed := true }
def FnExactBytesOfUptoSaid : Prop := fnExactBytesOfUptoRow.holds Try.pinned (OpenSpec.upto fnExactBytesOfSpec)

/-- 'laws.FnConds', WHERE WHAT IT READS IS OF BULK AT MOST 1048576: true; the input reads as it did. -/
def fnCondsUptoRow : OpenClaim := { program := "ytmnjomglpkbifaa", sum := "dc00e5b3ba20f3855e506ee58671c56b2d1134cac945b2fecc6ae0b4376e757e", func := "loop.example/g00664/laws.FnConds", spec := "fnConds", unfollowed := true, recurses := true, apart := false, narrowed := true }
def FnCondsUptoSaid : Prop := fnCondsUptoRow.holds Try.pinned (OpenSpec.upto fnCondsSpec)

/-- 'laws.FnHex', WHERE WHAT IT READS IS OF BULK AT MOST 1048576: true; the input reads as it did. -/
def fnHexUptoRow : OpenClaim := { program := "ytmnjomglpkbifaa", sum := "dc00e5b3ba20f3855e506ee58671c56b2d1134cac945b2fecc6ae0b4376e757e", func := "loop.example/g00664/laws.FnHex", spec := "fnHex", apart := false, narrowed := true }
def FnHexUptoSaid : Prop := fnHexUptoRow.holds Try.pinned (OpenSpec.upto fnHexSpec)

/-- 'laws.FnExactDivideWide', WHERE WHAT IT READS IS OF BULK AT MOST 1048576: true; the input reads as it did. -/
def fnExactDivideWideUptoRow : OpenClaim := { program := "ytmnjomglpkbifaa", sum := "dc00e5b3ba20f3855e506ee58671c56b2d1134cac945b2fecc6ae0b4376e757e", func := "loop.example/g00664/laws.FnExactDivideWide", spec := "fnExactDivideWide", named := ["math/bits.divideError", "math/bits.overflowError"], apart := false, narrowed := true }
def FnExactDivideWideUptoSaid : Prop := fnExactDivideWideUptoRow.holds Try.pinned (OpenSpec.upto fnExactDivideWideSpec)

end Rows
end Go.Proofs.Ytmnjomglpkbifaa
