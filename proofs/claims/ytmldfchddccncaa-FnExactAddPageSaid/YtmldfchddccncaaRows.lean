/-
  No cell of these rows narrows 'for every input' (looked for: loops, veiled, ifaces, maps, wideKeys, modest, calm, conditions, laid).
  DERIVED. THE GIVEN ROWS OF THIS SEAT. 8 by the template 'for every input the law returns true; each argument reads behind the call as it read before'; 0 by the template 'total and deterministic' (their statements: YtmldfchddccncaaTotals.lean).
  GIVEN WITH THE SEED: the statements are not yours to turn. If you find one false, say at which input.
  Laid BY PROGRAM, IN A SANDBOX (cutbox-rows.mjs): the forced cells as the released guide's own fill.sh prints them over the translation d3ffa3534ea6a808… (all of the seat's roots in one cut). By AI agents, Wed Nov 11 2026. No macro, syntax, notation, axiom, sorry.
-/
import Derived.Test.YtmldfchddccncaaChecked
import GoSem.Claim
import GoSem.ClaimJoined
import GoSem.ClaimMapViews
import Derived.JoinedTies
import Derived.KernelRfl
namespace Go.Proofs.Ytmldfchddccncaa
/- THE CELL 'sum', in the pinned program and in every row, IS THE sha256 OF THE DUMP (.gsa) THAT YtmldfchddccncaaProg.lean LOADS. Nothing in Lean hashes anything: it is a label: what it is worth is what the hold of that sum in a sandbox is worth. -/
noncomputable def Try.pinned : Pinned := { name := "ytmldfchddccncaa", sum := "d3ffa3534ea6a80859dfee385a38d733394dd107a7c561f331bdddb217bb2d82", checked := Try.checked }
namespace Rows
def none {H : Type} : Left H := { results := [], args := [] }

/-- 'laws.FnExactAddPage': WHATEVER THE INPUT: true; the input reads as it did. -/
def fnExactAddPageSpec : ChangeSpec := { name := "fnExactAddPage", fn := fun _ => fun
  | [d1, d2, d3] => { results := [.lit (.bool true)], args := [d1, d2, d3] }
  | _ => none }
def fnExactAddPageRow : OpenClaim := { program := "ytmldfchddccncaa", sum := "d3ffa3534ea6a80859dfee385a38d733394dd107a7c561f331bdddb217bb2d82", func := "loop.example/g00664/laws.FnExactAddPage", spec := "fnExactAddPage", inPlace := ["internal/abi.NoEscape", "internal/bytealg.MakeNoZero", "slices.overlaps[loop.example/g00664/impl.Page]"], unfollowed := true, recurses := true, apart := false }
def FnExactAddPageSaid : Prop := fnExactAddPageRow.holds Try.pinned (OpenSpec.ofChange fnExactAddPageSpec)

/-- ITS FALSE NEIGHBOUR: 'it returns false'. Refute it at one input. -/
def fnExactAddPageWrong : ChangeSpec := { name := "fnExactAddPage", fn := fun _ => fun
  | [d1, d2, d3] => { results := [.lit (.bool false)], args := [d1, d2, d3] }
  | _ => none }
def FnExactAddPageWrongFalsely : Prop := fnExactAddPageRow.holds Try.pinned (OpenSpec.ofChange fnExactAddPageWrong)

/-- 'laws.FnExactMemoryOK': WHATEVER THE INPUT: true; the input reads as it did. -/
def fnExactMemoryOKSpec : ChangeSpec := { name := "fnExactMemoryOK", fn := fun _ => fun
  | [d] => { results := [.lit (.bool true)], args := [d] }
  | _ => none }
def fnExactMemoryOKRow : OpenClaim := { program := "ytmldfchddccncaa", sum := "d3ffa3534ea6a80859dfee385a38d733394dd107a7c561f331bdddb217bb2d82", func := "loop.example/g00664/laws.FnExactMemoryOK", spec := "fnExactMemoryOK", apart := false }
def FnExactMemoryOKSaid : Prop := fnExactMemoryOKRow.holds Try.pinned (OpenSpec.ofChange fnExactMemoryOKSpec)

/-- ITS FALSE NEIGHBOUR: 'it returns false'. Refute it at one input. -/
def fnExactMemoryOKWrong : ChangeSpec := { name := "fnExactMemoryOK", fn := fun _ => fun
  | [d] => { results := [.lit (.bool false)], args := [d] }
  | _ => none }
def FnExactMemoryOKWrongFalsely : Prop := fnExactMemoryOKRow.holds Try.pinned (OpenSpec.ofChange fnExactMemoryOKWrong)

/-- 'laws.FnExactSameMemory': WHATEVER THE INPUT: true; the input reads as it did. -/
def fnExactSameMemorySpec : ChangeSpec := { name := "fnExactSameMemory", fn := fun _ => fun
  | [d1, d2] => { results := [.lit (.bool true)], args := [d1, d2] }
  | _ => none }
def fnExactSameMemoryRow : OpenClaim := { program := "ytmldfchddccncaa", sum := "d3ffa3534ea6a80859dfee385a38d733394dd107a7c561f331bdddb217bb2d82", func := "loop.example/g00664/laws.FnExactSameMemory", spec := "fnExactSameMemory", apart := false }
def FnExactSameMemorySaid : Prop := fnExactSameMemoryRow.holds Try.pinned (OpenSpec.ofChange fnExactSameMemorySpec)

/-- ITS FALSE NEIGHBOUR: 'it returns false'. Refute it at one input. -/
def fnExactSameMemoryWrong : ChangeSpec := { name := "fnExactSameMemory", fn := fun _ => fun
  | [d1, d2] => { results := [.lit (.bool false)], args := [d1, d2] }
  | _ => none }
def FnExactSameMemoryWrongFalsely : Prop := fnExactSameMemoryRow.holds Try.pinned (OpenSpec.ofChange fnExactSameMemoryWrong)

/-- 'laws.FnExactPermAt': WHATEVER THE INPUT: true; the input reads as it did. -/
def fnExactPermAtSpec : ChangeSpec := { name := "fnExactPermAt", fn := fun _ => fun
  | [d1, d2] => { results := [.lit (.bool true)], args := [d1, d2] }
  | _ => none }
def fnExactPermAtRow : OpenClaim := { program := "ytmldfchddccncaa", sum := "d3ffa3534ea6a80859dfee385a38d733394dd107a7c561f331bdddb217bb2d82", func := "loop.example/g00664/laws.FnExactPermAt", spec := "fnExactPermAt", unfollowed := true, recurses := true, apart := false }
def FnExactPermAtSaid : Prop := fnExactPermAtRow.holds Try.pinned (OpenSpec.ofChange fnExactPermAtSpec)

/-- ITS FALSE NEIGHBOUR: 'it returns false'. Refute it at one input. -/
def fnExactPermAtWrong : ChangeSpec := { name := "fnExactPermAt", fn := fun _ => fun
  | [d1, d2] => { results := [.lit (.bool false)], args := [d1, d2] }
  | _ => none }
def FnExactPermAtWrongFalsely : Prop := fnExactPermAtRow.holds Try.pinned (OpenSpec.ofChange fnExactPermAtWrong)

/-- 'laws.FnExactGetBytes': WHATEVER THE INPUT: true; the input reads as it did. -/
def fnExactGetBytesSpec : ChangeSpec := { name := "fnExactGetBytes", fn := fun _ => fun
  | [d1, d2, d3] => { results := [.lit (.bool true)], args := [d1, d2, d3] }
  | _ => none }
def fnExactGetBytesRow : OpenClaim := { program := "ytmldfchddccncaa", sum := "d3ffa3534ea6a80859dfee385a38d733394dd107a7c561f331bdddb217bb2d82", func := "loop.example/g00664/laws.FnExactGetBytes", spec := "fnExactGetBytes", unfollowed := true, recurses := true, apart := false }
def FnExactGetBytesSaid : Prop := fnExactGetBytesRow.holds Try.pinned (OpenSpec.ofChange fnExactGetBytesSpec)

/-- ITS FALSE NEIGHBOUR: 'it returns false'. Refute it at one input. -/
def fnExactGetBytesWrong : ChangeSpec := { name := "fnExactGetBytes", fn := fun _ => fun
  | [d1, d2, d3] => { results := [.lit (.bool false)], args := [d1, d2, d3] }
  | _ => none }
def FnExactGetBytesWrongFalsely : Prop := fnExactGetBytesRow.holds Try.pinned (OpenSpec.ofChange fnExactGetBytesWrong)

/-- 'laws.FnExactFetchAt': WHATEVER THE INPUT: true; the input reads as it did. -/
def fnExactFetchAtSpec : ChangeSpec := { name := "fnExactFetchAt", fn := fun _ => fun
  | [d1, d2] => { results := [.lit (.bool true)], args := [d1, d2] }
  | _ => none }
def fnExactFetchAtRow : OpenClaim := { program := "ytmldfchddccncaa", sum := "d3ffa3534ea6a80859dfee385a38d733394dd107a7c561f331bdddb217bb2d82", func := "loop.example/g00664/laws.FnExactFetchAt", spec := "fnExactFetchAt", unfollowed := true, recurses := true, apart := false }
def FnExactFetchAtSaid : Prop := fnExactFetchAtRow.holds Try.pinned (OpenSpec.ofChange fnExactFetchAtSpec)

/-- ITS FALSE NEIGHBOUR: 'it returns false'. Refute it at one input. -/
def fnExactFetchAtWrong : ChangeSpec := { name := "fnExactFetchAt", fn := fun _ => fun
  | [d1, d2] => { results := [.lit (.bool false)], args := [d1, d2] }
  | _ => none }
def FnExactFetchAtWrongFalsely : Prop := fnExactFetchAtRow.holds Try.pinned (OpenSpec.ofChange fnExactFetchAtWrong)

/-- 'laws.FnExactSetPerm': WHATEVER THE INPUT: true; the input reads as it did. -/
def fnExactSetPermSpec : ChangeSpec := { name := "fnExactSetPerm", fn := fun _ => fun
  | [d1, d2, d3] => { results := [.lit (.bool true)], args := [d1, d2, d3] }
  | _ => none }
def fnExactSetPermRow : OpenClaim := { program := "ytmldfchddccncaa", sum := "d3ffa3534ea6a80859dfee385a38d733394dd107a7c561f331bdddb217bb2d82", func := "loop.example/g00664/laws.FnExactSetPerm", spec := "fnExactSetPerm", unfollowed := true, recurses := true, apart := false }
def FnExactSetPermSaid : Prop := fnExactSetPermRow.holds Try.pinned (OpenSpec.ofChange fnExactSetPermSpec)

/-- ITS FALSE NEIGHBOUR: 'it returns false'. Refute it at one input. -/
def fnExactSetPermWrong : ChangeSpec := { name := "fnExactSetPerm", fn := fun _ => fun
  | [d1, d2, d3] => { results := [.lit (.bool false)], args := [d1, d2, d3] }
  | _ => none }
def FnExactSetPermWrongFalsely : Prop := fnExactSetPermRow.holds Try.pinned (OpenSpec.ofChange fnExactSetPermWrong)

/-- 'laws.FnExactPutBytes': WHATEVER THE INPUT: true; the input reads as it did. -/
def fnExactPutBytesSpec : ChangeSpec := { name := "fnExactPutBytes", fn := fun _ => fun
  | [d1, d2, d3] => { results := [.lit (.bool true)], args := [d1, d2, d3] }
  | _ => none }
def fnExactPutBytesRow : OpenClaim := { program := "ytmldfchddccncaa", sum := "d3ffa3534ea6a80859dfee385a38d733394dd107a7c561f331bdddb217bb2d82", func := "loop.example/g00664/laws.FnExactPutBytes", spec := "fnExactPutBytes", unfollowed := true, recurses := true, apart := false }
def FnExactPutBytesSaid : Prop := fnExactPutBytesRow.holds Try.pinned (OpenSpec.ofChange fnExactPutBytesSpec)

/-- ITS FALSE NEIGHBOUR: 'it returns false'. Refute it at one input. -/
def fnExactPutBytesWrong : ChangeSpec := { name := "fnExactPutBytes", fn := fun _ => fun
  | [d1, d2, d3] => { results := [.lit (.bool false)], args := [d1, d2, d3] }
  | _ => none }
def FnExactPutBytesWrongFalsely : Prop := fnExactPutBytesRow.holds Try.pinned (OpenSpec.ofChange fnExactPutBytesWrong)

/- THE SECOND FORM. 'bulk': how many values and letters a reading holds, each counted each time it is reached (what is shared counts as often as it is met; a slice's spare places count too). A statement '..UptoSaid' is the law's where the arguments, and the package variables that the reading takes, are together of bulk at most 1048576: NARROWER than '..Said'. Prove '..Said' where nothing that the law and all that it calls make is longer than what came in: it says more and counts as full. Else prove '..UptoSaid'. A law counts once. -/
mutual
def uptoBulk {H : Type} : DataW H → Nat
  | .lit (.string bytes) => bytes.length + 1
  | .lit _ => 1
  | .nil => 1
  | .ptr d => uptoBulk d + 1
  | .slice elems spare => uptoBulkAll elems + uptoBulkAll spare + 1
  | .agg parts => uptoBulkAll parts + 1
  | .iface _ d => uptoBulk d + 1
  | .map entries => uptoBulkEntries entries + 1
  | .held _ => 1
def uptoBulkAll {H : Type} : List (DataW H) → Nat
  | [] => 0
  | d :: r => uptoBulk d + uptoBulkAll r
def uptoBulkEntries {H : Type} : List (Lit × DataW H) → Nat
  | [] => 0
  | x :: r => uptoBulkEntry x + uptoBulkEntries r
def uptoBulkEntry {H : Type} : Lit × DataW H → Nat
  | (.string bytes, d) => bytes.length + uptoBulk d + 1
  | (_, d) => uptoBulk d + 1
 end
def uptoSmall : (H : Type) → List (DataW H) → Bool := fun _ ds => decide (uptoBulkAll ds ≤ 1048576)
def OpenSpec.upto (s : _root_.Go.ChangeSpec) : _root_.Go.OpenSpec := { _root_.Go.OpenSpec.ofChange s with cond := some uptoSmall }

/-- 'laws.FnExactAddPage', WHERE WHAT IT READS IS OF BULK AT MOST 1048576: true; the input reads as it did. -/
def fnExactAddPageUptoRow : OpenClaim := { program := "ytmldfchddccncaa", sum := "d3ffa3534ea6a80859dfee385a38d733394dd107a7c561f331bdddb217bb2d82", func := "loop.example/g00664/laws.FnExactAddPage", spec := "fnExactAddPage", inPlace := ["internal/abi.NoEscape", "internal/bytealg.MakeNoZero", "slices.overlaps[loop.example/g00664/impl.Page]"], unfollowed := true, recurses := true, apart := false, narrowed := true }
def FnExactAddPageUptoSaid : Prop := fnExactAddPageUptoRow.holds Try.pinned (OpenSpec.upto fnExactAddPageSpec)

/-- 'laws.FnExactMemoryOK', WHERE WHAT IT READS IS OF BULK AT MOST 1048576: true; the input reads as it did. -/
def fnExactMemoryOKUptoRow : OpenClaim := { program := "ytmldfchddccncaa", sum := "d3ffa3534ea6a80859dfee385a38d733394dd107a7c561f331bdddb217bb2d82", func := "loop.example/g00664/laws.FnExactMemoryOK", spec := "fnExactMemoryOK", apart := false, narrowed := true }
def FnExactMemoryOKUptoSaid : Prop := fnExactMemoryOKUptoRow.holds Try.pinned (OpenSpec.upto fnExactMemoryOKSpec)

/-- 'laws.FnExactSameMemory', WHERE WHAT IT READS IS OF BULK AT MOST 1048576: true; the input reads as it did. -/
def fnExactSameMemoryUptoRow : OpenClaim := { program := "ytmldfchddccncaa", sum := "d3ffa3534ea6a80859dfee385a38d733394dd107a7c561f331bdddb217bb2d82", func := "loop.example/g00664/laws.FnExactSameMemory", spec := "fnExactSameMemory", apart := false, narrowed := true }
def FnExactSameMemoryUptoSaid : Prop := fnExactSameMemoryUptoRow.holds Try.pinned (OpenSpec.upto fnExactSameMemorySpec)

/-- 'laws.FnExactPermAt', WHERE WHAT IT READS IS OF BULK AT MOST 1048576: true; the input reads as it did. -/
def fnExactPermAtUptoRow : OpenClaim := { program := "ytmldfchddccncaa", sum := "d3ffa3534ea6a80859dfee385a38d733394dd107a7c561f331bdddb217bb2d82", func := "loop.example/g00664/laws.FnExactPermAt", spec := "fnExactPermAt", unfollowed := true, recurses := true, apart := false, narrowed := true }
def FnExactPermAtUptoSaid : Prop := fnExactPermAtUptoRow.holds Try.pinned (OpenSpec.upto fnExactPermAtSpec)

/-- 'laws.FnExactGetBytes', WHERE WHAT IT READS IS OF BULK AT MOST 1048576: true; the input reads as it did. -/
def fnExactGetBytesUptoRow : OpenClaim := { program := "ytmldfchddccncaa", sum := "d3ffa3534ea6a80859dfee385a38d733394dd107a7c561f331bdddb217bb2d82", func := "loop.example/g00664/laws.FnExactGetBytes", spec := "fnExactGetBytes", unfollowed := true, recurses := true, apart := false, narrowed := true }
def FnExactGetBytesUptoSaid : Prop := fnExactGetBytesUptoRow.holds Try.pinned (OpenSpec.upto fnExactGetBytesSpec)

/-- 'laws.FnExactFetchAt', WHERE WHAT IT READS IS OF BULK AT MOST 1048576: true; the input reads as it did. -/
def fnExactFetchAtUptoRow : OpenClaim := { program := "ytmldfchddccncaa", sum := "d3ffa3534ea6a80859dfee385a38d733394dd107a7c561f331bdddb217bb2d82", func := "loop.example/g00664/laws.FnExactFetchAt", spec := "fnExactFetchAt", unfollowed := true, recurses := true, apart := false, narrowed := true }
def FnExactFetchAtUptoSaid : Prop := fnExactFetchAtUptoRow.holds Try.pinned (OpenSpec.upto fnExactFetchAtSpec)

/-- 'laws.FnExactSetPerm', WHERE WHAT IT READS IS OF BULK AT MOST 1048576: true; the input reads as it did. -/
def fnExactSetPermUptoRow : OpenClaim := { program := "ytmldfchddccncaa", sum := "d3ffa3534ea6a80859dfee385a38d733394dd107a7c561f331bdddb217bb2d82", func := "loop.example/g00664/laws.FnExactSetPerm", spec := "fnExactSetPerm", unfollowed := true, recurses := true, apart := false, narrowed := true }
def FnExactSetPermUptoSaid : Prop := fnExactSetPermUptoRow.holds Try.pinned (OpenSpec.upto fnExactSetPermSpec)

/-- 'laws.FnExactPutBytes', WHERE WHAT IT READS IS OF BULK AT MOST 1048576: true; the input reads as it did. -/
def fnExactPutBytesUptoRow : OpenClaim := { program := "ytmldfchddccncaa", sum := "d3ffa3534ea6a80859dfee385a38d733394dd107a7c561f331bdddb217bb2d82", func := "loop.example/g00664/laws.FnExactPutBytes", spec := "fnExactPutBytes", unfollowed := true, recurses := true, apart := false, narrowed := true }
def FnExactPutBytesUptoSaid : Prop := fnExactPutBytesUptoRow.holds Try.pinned (OpenSpec.upto fnExactPutBytesSpec)

end Rows
end Go.Proofs.Ytmldfchddccncaa
