/-
  No cell of these rows narrows 'for every input' (looked for: loops, veiled, ifaces, maps, wideKeys, modest, calm, conditions, laid).
  DERIVED. THE GIVEN ROWS OF THIS SEAT. 8 by the template 'for every input the law returns true; each argument reads behind the call as it read before'; 0 by the template 'total and deterministic' (their statements: YtdljhgmgpnpfiaaTotals.lean).
  GIVEN WITH THE SEED: the statements are not yours to turn. If you find one false, say at which input.
  Laid BY PROGRAM, IN A SANDBOX (cutbox-rows.mjs): the forced cells as the released guide's own fill.sh prints them over the translation 63da94ff4869914c… (all of the seat's roots in one cut). By AI agents, Wed Nov 11 2026. No macro, syntax, notation, axiom, sorry.
-/
import Derived.Test.YtdljhgmgpnpfiaaChecked
import GoSem.Claim
import GoSem.ClaimJoined
import GoSem.ClaimMapViews
import Derived.JoinedTies
import Derived.KernelRfl
namespace Go.Proofs.Ytdljhgmgpnpfiaa
/- THE CELL 'sum', in the pinned program and in every row, IS THE sha256 OF THE DUMP (.gsa) THAT YtdljhgmgpnpfiaaProg.lean LOADS. Nothing in Lean hashes anything: it is a label: what it is worth is what the hold of that sum in a sandbox is worth. -/
noncomputable def Try.pinned : Pinned := { name := "ytdljhgmgpnpfiaa", sum := "63da94ff4869914c89b284a6c5d330c16b2889a44f62a1672dd7f1f95f5c31da", checked := Try.checked }
namespace Rows
def none {H : Type} : Left H := { results := [], args := [] }

/-- 'laws.FnExactOne': WHATEVER THE INPUT: true; the input reads as it did. -/
def fnExactOneSpec : ChangeSpec := { name := "fnExactOne", fn := fun _ => fun
  | [d1, d2, d3, d4] => { results := [.lit (.bool true)], args := [d1, d2, d3, d4] }
  | _ => none }
def fnExactOneRow : OpenClaim := { program := "ytdljhgmgpnpfiaa", sum := "63da94ff4869914c89b284a6c5d330c16b2889a44f62a1672dd7f1f95f5c31da", func := "loop.example/g00664/laws.FnExactOne", spec := "fnExactOne", inPlace := ["math/bits.Sub64", "math/bits.Add64"], apart := false }
def FnExactOneSaid : Prop := fnExactOneRow.holds Try.pinned (OpenSpec.ofChange fnExactOneSpec)

/-- ITS FALSE NEIGHBOUR: 'it returns false'. Refute it at one input. -/
def fnExactOneWrong : ChangeSpec := { name := "fnExactOne", fn := fun _ => fun
  | [d1, d2, d3, d4] => { results := [.lit (.bool false)], args := [d1, d2, d3, d4] }
  | _ => none }
def FnExactOneWrongFalsely : Prop := fnExactOneRow.holds Try.pinned (OpenSpec.ofChange fnExactOneWrong)

/-- 'laws.FnExactShift': WHATEVER THE INPUT: true; the input reads as it did. -/
def fnExactShiftSpec : ChangeSpec := { name := "fnExactShift", fn := fun _ => fun
  | [d1, d2, d3, d4, d5] => { results := [.lit (.bool true)], args := [d1, d2, d3, d4, d5] }
  | _ => none }
def fnExactShiftRow : OpenClaim := { program := "ytdljhgmgpnpfiaa", sum := "63da94ff4869914c89b284a6c5d330c16b2889a44f62a1672dd7f1f95f5c31da", func := "loop.example/g00664/laws.FnExactShift", spec := "fnExactShift", apart := false }
def FnExactShiftSaid : Prop := fnExactShiftRow.holds Try.pinned (OpenSpec.ofChange fnExactShiftSpec)

/-- ITS FALSE NEIGHBOUR: 'it returns false'. Refute it at one input. -/
def fnExactShiftWrong : ChangeSpec := { name := "fnExactShift", fn := fun _ => fun
  | [d1, d2, d3, d4, d5] => { results := [.lit (.bool false)], args := [d1, d2, d3, d4, d5] }
  | _ => none }
def FnExactShiftWrongFalsely : Prop := fnExactShiftRow.holds Try.pinned (OpenSpec.ofChange fnExactShiftWrong)

/-- 'laws.FnExactMultiply': WHATEVER THE INPUT: true; the input reads as it did. -/
def fnExactMultiplySpec : ChangeSpec := { name := "fnExactMultiply", fn := fun _ => fun
  | [d1, d2, d3, d4, d5] => { results := [.lit (.bool true)], args := [d1, d2, d3, d4, d5] }
  | _ => none }
def fnExactMultiplyRow : OpenClaim := { program := "ytdljhgmgpnpfiaa", sum := "63da94ff4869914c89b284a6c5d330c16b2889a44f62a1672dd7f1f95f5c31da", func := "loop.example/g00664/laws.FnExactMultiply", spec := "fnExactMultiply", apart := false }
def FnExactMultiplySaid : Prop := fnExactMultiplyRow.holds Try.pinned (OpenSpec.ofChange fnExactMultiplySpec)

/-- ITS FALSE NEIGHBOUR: 'it returns false'. Refute it at one input. -/
def fnExactMultiplyWrong : ChangeSpec := { name := "fnExactMultiply", fn := fun _ => fun
  | [d1, d2, d3, d4, d5] => { results := [.lit (.bool false)], args := [d1, d2, d3, d4, d5] }
  | _ => none }
def FnExactMultiplyWrongFalsely : Prop := fnExactMultiplyRow.holds Try.pinned (OpenSpec.ofChange fnExactMultiplyWrong)

/-- 'laws.FnExactAlu': WHATEVER THE INPUT: true; the input reads as it did. -/
def fnExactAluSpec : ChangeSpec := { name := "fnExactAlu", fn := fun _ => fun
  | [d1, d2, d3, d4, d5] => { results := [.lit (.bool true)], args := [d1, d2, d3, d4, d5] }
  | _ => none }
def fnExactAluRow : OpenClaim := { program := "ytdljhgmgpnpfiaa", sum := "63da94ff4869914c89b284a6c5d330c16b2889a44f62a1672dd7f1f95f5c31da", func := "loop.example/g00664/laws.FnExactAlu", spec := "fnExactAlu", inPlace := ["math/bits.Add64", "math/bits.Sub64"], apart := false }
def FnExactAluSaid : Prop := fnExactAluRow.holds Try.pinned (OpenSpec.ofChange fnExactAluSpec)

/-- ITS FALSE NEIGHBOUR: 'it returns false'. Refute it at one input. -/
def fnExactAluWrong : ChangeSpec := { name := "fnExactAlu", fn := fun _ => fun
  | [d1, d2, d3, d4, d5] => { results := [.lit (.bool false)], args := [d1, d2, d3, d4, d5] }
  | _ => none }
def FnExactAluWrongFalsely : Prop := fnExactAluRow.holds Try.pinned (OpenSpec.ofChange fnExactAluWrong)

/-- 'laws.FnExactDivide': WHATEVER THE INPUT: true; the input reads as it did. -/
def fnExactDivideSpec : ChangeSpec := { name := "fnExactDivide", fn := fun _ => fun
  | [d1, d2, d3, d4, d5] => { results := [.lit (.bool true)], args := [d1, d2, d3, d4, d5] }
  | _ => none }
def fnExactDivideRow : OpenClaim := { program := "ytdljhgmgpnpfiaa", sum := "63da94ff4869914c89b284a6c5d330c16b2889a44f62a1672dd7f1f95f5c31da", func := "loop.example/g00664/laws.FnExactDivide", spec := "fnExactDivide", inPlace := ["math/bits.Sub64"], named := ["math/bits.divideError", "math/bits.overflowError"], apart := false }
def FnExactDivideSaid : Prop := fnExactDivideRow.holds Try.pinned (OpenSpec.ofChange fnExactDivideSpec)

/-- ITS FALSE NEIGHBOUR: 'it returns false'. Refute it at one input. -/
def fnExactDivideWrong : ChangeSpec := { name := "fnExactDivide", fn := fun _ => fun
  | [d1, d2, d3, d4, d5] => { results := [.lit (.bool false)], args := [d1, d2, d3, d4, d5] }
  | _ => none }
def FnExactDivideWrongFalsely : Prop := fnExactDivideRow.holds Try.pinned (OpenSpec.ofChange fnExactDivideWrong)

/-- 'laws.FnShifts': WHATEVER THE INPUT: true; the input reads as it did. -/
def fnShiftsSpec : ChangeSpec := { name := "fnShifts", fn := fun _ => fun
  | [d1, d2] => { results := [.lit (.bool true)], args := [d1, d2] }
  | _ => none }
def fnShiftsRow : OpenClaim := { program := "ytdljhgmgpnpfiaa", sum := "63da94ff4869914c89b284a6c5d330c16b2889a44f62a1672dd7f1f95f5c31da", func := "loop.example/g00664/laws.FnShifts", spec := "fnShifts", apart := false }
def FnShiftsSaid : Prop := fnShiftsRow.holds Try.pinned (OpenSpec.ofChange fnShiftsSpec)

/-- ITS FALSE NEIGHBOUR: 'it returns false'. Refute it at one input. -/
def fnShiftsWrong : ChangeSpec := { name := "fnShifts", fn := fun _ => fun
  | [d1, d2] => { results := [.lit (.bool false)], args := [d1, d2] }
  | _ => none }
def FnShiftsWrongFalsely : Prop := fnShiftsRow.holds Try.pinned (OpenSpec.ofChange fnShiftsWrong)

/-- 'laws.FnWide': WHATEVER THE INPUT: true; the input reads as it did. -/
def fnWideSpec : ChangeSpec := { name := "fnWide", fn := fun _ => fun
  | [d1, d2] => { results := [.lit (.bool true)], args := [d1, d2] }
  | _ => none }
def fnWideRow : OpenClaim := { program := "ytdljhgmgpnpfiaa", sum := "63da94ff4869914c89b284a6c5d330c16b2889a44f62a1672dd7f1f95f5c31da", func := "loop.example/g00664/laws.FnWide", spec := "fnWide", named := ["math/bits.divideError", "math/bits.overflowError"], apart := false }
def FnWideSaid : Prop := fnWideRow.holds Try.pinned (OpenSpec.ofChange fnWideSpec)

/-- ITS FALSE NEIGHBOUR: 'it returns false'. Refute it at one input. -/
def fnWideWrong : ChangeSpec := { name := "fnWide", fn := fun _ => fun
  | [d1, d2] => { results := [.lit (.bool false)], args := [d1, d2] }
  | _ => none }
def FnWideWrongFalsely : Prop := fnWideRow.holds Try.pinned (OpenSpec.ofChange fnWideWrong)

/-- 'laws.FnBytes': WHATEVER THE INPUT: true; the input reads as it did. -/
def fnBytesSpec : ChangeSpec := { name := "fnBytes", fn := fun _ => fun
  | [d1, d2] => { results := [.lit (.bool true)], args := [d1, d2] }
  | _ => none }
def fnBytesRow : OpenClaim := { program := "ytdljhgmgpnpfiaa", sum := "63da94ff4869914c89b284a6c5d330c16b2889a44f62a1672dd7f1f95f5c31da", func := "loop.example/g00664/laws.FnBytes", spec := "fnBytes", apart := false }
def FnBytesSaid : Prop := fnBytesRow.holds Try.pinned (OpenSpec.ofChange fnBytesSpec)

/-- ITS FALSE NEIGHBOUR: 'it returns false'. Refute it at one input. -/
def fnBytesWrong : ChangeSpec := { name := "fnBytes", fn := fun _ => fun
  | [d1, d2] => { results := [.lit (.bool false)], args := [d1, d2] }
  | _ => none }
def FnBytesWrongFalsely : Prop := fnBytesRow.holds Try.pinned (OpenSpec.ofChange fnBytesWrong)

/- THE SECOND FORM. 'bulk': how many values and letters a reading holds, each counted each time it is reached (what is shared counts as often as it is met; a slice's spare places count too). A statement '..UptoSaid' is the law's where the arguments, and the package variables that the reading takes, are together of bulk at most 1048576: NARROWER than '..Said'. Prove '..Said' where nothing that the law and all that it calls make is longer than what came in: it says more and counts as full. Else prove '..UptoSaid'. A law counts once. -/
mutual
def uptoBulk {H : Type} : DataW H → Nat
  | .lit (.string bytes) => bytes.length + 1
  | .lit _ => 1
  | .nil => 1
  | .ptr d => uptoBulk d + 1
  | .slice elems spare => uptoBulkAll elems + uptoBulkAll spare + 1
  | .agg parts => uptoBulkAll parts + 1
  | .iface _ d => uptoBulk d + 1
  | .map entries => uptoBulkEntries entries + 1
  | .held _ => 1
def uptoBulkAll {H : Type} : List (DataW H) → Nat
  | [] => 0
  | d :: r => uptoBulk d + uptoBulkAll r
def uptoBulkEntries {H : Type} : List (Lit × DataW H) → Nat
  | [] => 0
  | x :: r => uptoBulkEntry x + uptoBulkEntries r
def uptoBulkEntry {H : Type} : Lit × DataW H → Nat
  | (.string bytes, d) => bytes.length + uptoBulk d + 1
  | (_, d) => uptoBulk d + 1
 end
def uptoSmall : (H : Type) → List (DataW H) → Bool := fun _ ds => decide (uptoBulkAll ds ≤ 1048576)
def OpenSpec.upto (s : _root_.Go.ChangeSpec) : _root_.Go.OpenSpec := { _root_.Go.OpenSpec.ofChange s with cond := some uptoSmall }

/-- 'laws.FnExactOne', WHERE WHAT IT READS IS OF BULK AT MOST 1048576: true; the input reads as it did. -/
def fnExactOneUptoRow : OpenClaim := { program := "ytdljhgmgpnpfiaa", sum := "63da94ff4869914c89b284a6c5d330c16b2889a44f62a1672dd7f1f95f5c31da", func := "loop.example/g00664/laws.FnExactOne", spec := "fnExactOne", inPlace := ["math/bits.Sub64", "math/bits.Add64"], apart := false, narrowed := true }
def FnExactOneUptoSaid : Prop := fnExactOneUptoRow.holds Try.pinned (OpenSpec.upto fnExactOneSpec)

/-- 'laws.FnExactShift', WHERE WHAT IT READS IS OF BULK AT MOST 1048576: true; the input reads as it did. -/
def fnExactShiftUptoRow : OpenClaim := { program := "ytdljhgmgpnpfiaa", sum := "63da94ff4869914c89b284a6c5d330c16b2889a44f62a1672dd7f1f95f5c31da", func := "loop.example/g00664/laws.FnExactShift", spec := "fnExactShift", apart := false, narrowed := true }
def FnExactShiftUptoSaid : Prop := fnExactShiftUptoRow.holds Try.pinned (OpenSpec.upto fnExactShiftSpec)

/-- 'laws.FnExactMultiply', WHERE WHAT IT READS IS OF BULK AT MOST 1048576: true; the input reads as it did. -/
def fnExactMultiplyUptoRow : OpenClaim := { program := "ytdljhgmgpnpfiaa", sum := "63da94ff4869914c89b284a6c5d330c16b2889a44f62a1672dd7f1f95f5c31da", func := "loop.example/g00664/laws.FnExactMultiply", spec := "fnExactMultiply", apart := false, narrowed := true }
def FnExactMultiplyUptoSaid : Prop := fnExactMultiplyUptoRow.holds Try.pinned (OpenSpec.upto fnExactMultiplySpec)

/-- 'laws.FnExactAlu', WHERE WHAT IT READS IS OF BULK AT MOST 1048576: true; the input reads as it did. -/
def fnExactAluUptoRow : OpenClaim := { program := "ytdljhgmgpnpfiaa", sum := "63da94ff4869914c89b284a6c5d330c16b2889a44f62a1672dd7f1f95f5c31da", func := "loop.example/g00664/laws.FnExactAlu", spec := "fnExactAlu", inPlace := ["math/bits.Add64", "math/bits.Sub64"], apart := false, narrowed := true }
def FnExactAluUptoSaid : Prop := fnExactAluUptoRow.holds Try.pinned (OpenSpec.upto fnExactAluSpec)

/-- 'laws.FnExactDivide', WHERE WHAT IT READS IS OF BULK AT MOST 1048576: true; the input reads as it did. -/
def fnExactDivideUptoRow : OpenClaim := { program := "ytdljhgmgpnpfiaa", sum := "63da94ff4869914c89b284a6c5d330c16b2889a44f62a1672dd7f1f95f5c31da", func := "loop.example/g00664/laws.FnExactDivide", spec := "fnExactDivide", inPlace := ["math/bits.Sub64"], named := ["math/bits.divideError", "math/bits.overflowError"], apart := false, narrowed := true }
def FnExactDivideUptoSaid : Prop := fnExactDivideUptoRow.holds Try.pinned (OpenSpec.upto fnExactDivideSpec)

/-- 'laws.FnShifts', WHERE WHAT IT READS IS OF BULK AT MOST 1048576: true; the input reads as it did. -/
def fnShiftsUptoRow : OpenClaim := { program := "ytdljhgmgpnpfiaa", sum := "63da94ff4869914c89b284a6c5d330c16b2889a44f62a1672dd7f1f95f5c31da", func := "loop.example/g00664/laws.FnShifts", spec := "fnShifts", apart := false, narrowed := true }
def FnShiftsUptoSaid : Prop := fnShiftsUptoRow.holds Try.pinned (OpenSpec.upto fnShiftsSpec)

/-- 'laws.FnWide', WHERE WHAT IT READS IS OF BULK AT MOST 1048576: true; the input reads as it did. -/
def fnWideUptoRow : OpenClaim := { program := "ytdljhgmgpnpfiaa", sum := "63da94ff4869914c89b284a6c5d330c16b2889a44f62a1672dd7f1f95f5c31da", func := "loop.example/g00664/laws.FnWide", spec := "fnWide", named := ["math/bits.divideError", "math/bits.overflowError"], apart := false, narrowed := true }
def FnWideUptoSaid : Prop := fnWideUptoRow.holds Try.pinned (OpenSpec.upto fnWideSpec)

/-- 'laws.FnBytes', WHERE WHAT IT READS IS OF BULK AT MOST 1048576: true; the input reads as it did. -/
def fnBytesUptoRow : OpenClaim := { program := "ytdljhgmgpnpfiaa", sum := "63da94ff4869914c89b284a6c5d330c16b2889a44f62a1672dd7f1f95f5c31da", func := "loop.example/g00664/laws.FnBytes", spec := "fnBytes", apart := false, narrowed := true }
def FnBytesUptoSaid : Prop := fnBytesUptoRow.holds Try.pinned (OpenSpec.upto fnBytesSpec)

end Rows
end Go.Proofs.Ytdljhgmgpnpfiaa
