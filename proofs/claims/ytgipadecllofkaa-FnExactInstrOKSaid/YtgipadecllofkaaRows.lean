/-
  No cell of these rows narrows 'for every input' (looked for: loops, veiled, ifaces, maps, wideKeys, modest, calm, conditions, laid).
  DERIVED. THE GIVEN ROWS OF THIS SEAT. 6 by the template 'for every input the law returns true; each argument reads behind the call as it read before'; 0 by the template 'total and deterministic' (their statements: YtgipadecllofkaaTotals.lean).
  GIVEN WITH THE SEED: the statements are not yours to turn. If you find one false, say at which input.
  Laid BY PROGRAM, IN A SANDBOX (cutbox-rows.mjs): the forced cells as the released guide's own fill.sh prints them over the translation 018249b32dcbd5fb… (all of the seat's roots in one cut). By AI agents, Wed Nov 11 2026. No macro, syntax, notation, axiom, sorry.
-/
import Derived.Test.YtgipadecllofkaaChecked
import GoSem.Claim
import GoSem.ClaimJoined
import GoSem.ClaimMapViews
import Derived.JoinedTies
import Derived.KernelRfl
namespace Go.Proofs.Ytgipadecllofkaa
/- THE CELL 'sum', in the pinned program and in every row, IS THE sha256 OF THE DUMP (.gsa) THAT YtgipadecllofkaaProg.lean LOADS. Nothing in Lean hashes anything: it is a label: what it is worth is what the hold of that sum in a sandbox is worth. -/
noncomputable def Try.pinned : Pinned := { name := "ytgipadecllofkaa", sum := "018249b32dcbd5fbbf67c62465993e6b713adf9c4fc7f5a768dc9ff371cb13d7", checked := Try.checked }
namespace Rows
def none {H : Type} : Left H := { results := [], args := [] }

/-- 'laws.FnExactInstrOK': WHATEVER THE INPUT: true; the input reads as it did. -/
def fnExactInstrOKSpec : ChangeSpec := { name := "fnExactInstrOK", fn := fun _ => fun
  | [d] => { results := [.lit (.bool true)], args := [d] }
  | _ => none }
def fnExactInstrOKRow : OpenClaim := { program := "ytgipadecllofkaa", sum := "018249b32dcbd5fbbf67c62465993e6b713adf9c4fc7f5a768dc9ff371cb13d7", func := "loop.example/g00664/laws.FnExactInstrOK", spec := "fnExactInstrOK", inPlace := ["internal/bytealg.IndexByteString", "internal/bytealg.IndexString"], unfollowed := true, recurses := true, named := ["internal/bytealg.MaxLen"], apart := false }
def FnExactInstrOKSaid : Prop := fnExactInstrOKRow.holds Try.pinned (OpenSpec.ofChange fnExactInstrOKSpec)

/-- ITS FALSE NEIGHBOUR: 'it returns false'. Refute it at one input. -/
def fnExactInstrOKWrong : ChangeSpec := { name := "fnExactInstrOK", fn := fun _ => fun
  | [d] => { results := [.lit (.bool false)], args := [d] }
  | _ => none }
def FnExactInstrOKWrongFalsely : Prop := fnExactInstrOKRow.holds Try.pinned (OpenSpec.ofChange fnExactInstrOKWrong)

/-- 'laws.FnExactOperandOK': WHATEVER THE INPUT: true; the input reads as it did. -/
def fnExactOperandOKSpec : ChangeSpec := { name := "fnExactOperandOK", fn := fun _ => fun
  | [d1, d2] => { results := [.lit (.bool true)], args := [d1, d2] }
  | _ => none }
def fnExactOperandOKRow : OpenClaim := { program := "ytgipadecllofkaa", sum := "018249b32dcbd5fbbf67c62465993e6b713adf9c4fc7f5a768dc9ff371cb13d7", func := "loop.example/g00664/laws.FnExactOperandOK", spec := "fnExactOperandOK", apart := false }
def FnExactOperandOKSaid : Prop := fnExactOperandOKRow.holds Try.pinned (OpenSpec.ofChange fnExactOperandOKSpec)

/-- ITS FALSE NEIGHBOUR: 'it returns false'. Refute it at one input. -/
def fnExactOperandOKWrong : ChangeSpec := { name := "fnExactOperandOK", fn := fun _ => fun
  | [d1, d2] => { results := [.lit (.bool false)], args := [d1, d2] }
  | _ => none }
def FnExactOperandOKWrongFalsely : Prop := fnExactOperandOKRow.holds Try.pinned (OpenSpec.ofChange fnExactOperandOKWrong)

/-- 'laws.FnExactGetReg': WHATEVER THE INPUT: true; the input reads as it did. -/
def fnExactGetRegSpec : ChangeSpec := { name := "fnExactGetReg", fn := fun _ => fun
  | [d1, d2, d3] => { results := [.lit (.bool true)], args := [d1, d2, d3] }
  | _ => none }
def fnExactGetRegRow : OpenClaim := { program := "ytgipadecllofkaa", sum := "018249b32dcbd5fbbf67c62465993e6b713adf9c4fc7f5a768dc9ff371cb13d7", func := "loop.example/g00664/laws.FnExactGetReg", spec := "fnExactGetReg", apart := false }
def FnExactGetRegSaid : Prop := fnExactGetRegRow.holds Try.pinned (OpenSpec.ofChange fnExactGetRegSpec)

/-- ITS FALSE NEIGHBOUR: 'it returns false'. Refute it at one input. -/
def fnExactGetRegWrong : ChangeSpec := { name := "fnExactGetReg", fn := fun _ => fun
  | [d1, d2, d3] => { results := [.lit (.bool false)], args := [d1, d2, d3] }
  | _ => none }
def FnExactGetRegWrongFalsely : Prop := fnExactGetRegRow.holds Try.pinned (OpenSpec.ofChange fnExactGetRegWrong)

/-- 'laws.FnExactAddressOf': WHATEVER THE INPUT: true; the input reads as it did. -/
def fnExactAddressOfSpec : ChangeSpec := { name := "fnExactAddressOf", fn := fun _ => fun
  | [d1, d2, d3] => { results := [.lit (.bool true)], args := [d1, d2, d3] }
  | _ => none }
def fnExactAddressOfRow : OpenClaim := { program := "ytgipadecllofkaa", sum := "018249b32dcbd5fbbf67c62465993e6b713adf9c4fc7f5a768dc9ff371cb13d7", func := "loop.example/g00664/laws.FnExactAddressOf", spec := "fnExactAddressOf", apart := false }
def FnExactAddressOfSaid : Prop := fnExactAddressOfRow.holds Try.pinned (OpenSpec.ofChange fnExactAddressOfSpec)

/-- ITS FALSE NEIGHBOUR: 'it returns false'. Refute it at one input. -/
def fnExactAddressOfWrong : ChangeSpec := { name := "fnExactAddressOf", fn := fun _ => fun
  | [d1, d2, d3] => { results := [.lit (.bool false)], args := [d1, d2, d3] }
  | _ => none }
def FnExactAddressOfWrongFalsely : Prop := fnExactAddressOfRow.holds Try.pinned (OpenSpec.ofChange fnExactAddressOfWrong)

/-- 'laws.FnExactSetReg': WHATEVER THE INPUT: true; the input reads as it did. -/
def fnExactSetRegSpec : ChangeSpec := { name := "fnExactSetReg", fn := fun _ => fun
  | [d1, d2, d3, d4] => { results := [.lit (.bool true)], args := [d1, d2, d3, d4] }
  | _ => none }
def fnExactSetRegRow : OpenClaim := { program := "ytgipadecllofkaa", sum := "018249b32dcbd5fbbf67c62465993e6b713adf9c4fc7f5a768dc9ff371cb13d7", func := "loop.example/g00664/laws.FnExactSetReg", spec := "fnExactSetReg", apart := false }
def FnExactSetRegSaid : Prop := fnExactSetRegRow.holds Try.pinned (OpenSpec.ofChange fnExactSetRegSpec)

/-- ITS FALSE NEIGHBOUR: 'it returns false'. Refute it at one input. -/
def fnExactSetRegWrong : ChangeSpec := { name := "fnExactSetReg", fn := fun _ => fun
  | [d1, d2, d3, d4] => { results := [.lit (.bool false)], args := [d1, d2, d3, d4] }
  | _ => none }
def FnExactSetRegWrongFalsely : Prop := fnExactSetRegRow.holds Try.pinned (OpenSpec.ofChange fnExactSetRegWrong)

/-- 'laws.FnRegs': WHATEVER THE INPUT: true; the input reads as it did. -/
def fnRegsSpec : ChangeSpec := { name := "fnRegs", fn := fun _ => fun
  | [d1, d2] => { results := [.lit (.bool true)], args := [d1, d2] }
  | _ => none }
def fnRegsRow : OpenClaim := { program := "ytgipadecllofkaa", sum := "018249b32dcbd5fbbf67c62465993e6b713adf9c4fc7f5a768dc9ff371cb13d7", func := "loop.example/g00664/laws.FnRegs", spec := "fnRegs", apart := false }
def FnRegsSaid : Prop := fnRegsRow.holds Try.pinned (OpenSpec.ofChange fnRegsSpec)

/-- ITS FALSE NEIGHBOUR: 'it returns false'. Refute it at one input. -/
def fnRegsWrong : ChangeSpec := { name := "fnRegs", fn := fun _ => fun
  | [d1, d2] => { results := [.lit (.bool false)], args := [d1, d2] }
  | _ => none }
def FnRegsWrongFalsely : Prop := fnRegsRow.holds Try.pinned (OpenSpec.ofChange fnRegsWrong)

/- THE SECOND FORM. 'bulk': how many values and letters a reading holds, each counted each time it is reached (what is shared counts as often as it is met; a slice's spare places count too). A statement '..UptoSaid' is the law's where the arguments, and the package variables that the reading takes, are together of bulk at most 1048576: NARROWER than '..Said'. Prove '..Said' where nothing that the law and all that it calls make is longer than what came in: it says more and counts as full. Else prove '..UptoSaid'. A law counts once. -/
mutual
def uptoBulk {H : Type} : DataW H → Nat
  | .lit (.string bytes) => bytes.length + 1
  | .lit _ => 1
  | .nil => 1
  | .ptr d => uptoBulk d + 1
  | .slice elems spare => uptoBulkAll elems + uptoBulkAll spare + 1
  | .agg parts => uptoBulkAll parts + 1
  | .iface _ d => uptoBulk d + 1
  | .map entries => uptoBulkEntries entries + 1
  | .held _ => 1
def uptoBulkAll {H : Type} : List (DataW H) → Nat
  | [] => 0
  | d :: r => uptoBulk d + uptoBulkAll r
def uptoBulkEntries {H : Type} : List (Lit × DataW H) → Nat
  | [] => 0
  | x :: r => uptoBulkEntry x + uptoBulkEntries r
def uptoBulkEntry {H : Type} : Lit × DataW H → Nat
  | (.string bytes, d) => bytes.length + uptoBulk d + 1
  | (_, d) => uptoBulk d + 1
 end
def uptoSmall : (H : Type) → List (DataW H) → Bool := fun _ ds => decide (uptoBulkAll ds ≤ 1048576)
def OpenSpec.upto (s : _root_.Go.ChangeSpec) : _root_.Go.OpenSpec := { _root_.Go.OpenSpec.ofChange s with cond := some uptoSmall }

/-- 'laws.FnExactInstrOK', WHERE WHAT IT READS IS OF BULK AT MOST 1048576: true; the input reads as it did. -/
def fnExactInstrOKUptoRow : OpenClaim := { program := "ytgipadecllofkaa", sum := "018249b32dcbd5fbbf67c62465993e6b713adf9c4fc7f5a768dc9ff371cb13d7", func := "loop.example/g00664/laws.FnExactInstrOK", spec := "fnExactInstrOK", inPlace := ["internal/bytealg.IndexByteString", "internal/bytealg.IndexString"], unfollowed := true, recurses := true, named := ["internal/bytealg.MaxLen"], apart := false, narrowed := true }
def FnExactInstrOKUptoSaid : Prop := fnExactInstrOKUptoRow.holds Try.pinned (OpenSpec.upto fnExactInstrOKSpec)

/-- 'laws.FnExactOperandOK', WHERE WHAT IT READS IS OF BULK AT MOST 1048576: true; the input reads as it did. -/
def fnExactOperandOKUptoRow : OpenClaim := { program := "ytgipadecllofkaa", sum := "018249b32dcbd5fbbf67c62465993e6b713adf9c4fc7f5a768dc9ff371cb13d7", func := "loop.example/g00664/laws.FnExactOperandOK", spec := "fnExactOperandOK", apart := false, narrowed := true }
def FnExactOperandOKUptoSaid : Prop := fnExactOperandOKUptoRow.holds Try.pinned (OpenSpec.upto fnExactOperandOKSpec)

/-- 'laws.FnExactGetReg', WHERE WHAT IT READS IS OF BULK AT MOST 1048576: true; the input reads as it did. -/
def fnExactGetRegUptoRow : OpenClaim := { program := "ytgipadecllofkaa", sum := "018249b32dcbd5fbbf67c62465993e6b713adf9c4fc7f5a768dc9ff371cb13d7", func := "loop.example/g00664/laws.FnExactGetReg", spec := "fnExactGetReg", apart := false, narrowed := true }
def FnExactGetRegUptoSaid : Prop := fnExactGetRegUptoRow.holds Try.pinned (OpenSpec.upto fnExactGetRegSpec)

/-- 'laws.FnExactAddressOf', WHERE WHAT IT READS IS OF BULK AT MOST 1048576: true; the input reads as it did. -/
def fnExactAddressOfUptoRow : OpenClaim := { program := "ytgipadecllofkaa", sum := "018249b32dcbd5fbbf67c62465993e6b713adf9c4fc7f5a768dc9ff371cb13d7", func := "loop.example/g00664/laws.FnExactAddressOf", spec := "fnExactAddressOf", apart := false, narrowed := true }
def FnExactAddressOfUptoSaid : Prop := fnExactAddressOfUptoRow.holds Try.pinned (OpenSpec.upto fnExactAddressOfSpec)

/-- 'laws.FnExactSetReg', WHERE WHAT IT READS IS OF BULK AT MOST 1048576: true; the input reads as it did. -/
def fnExactSetRegUptoRow : OpenClaim := { program := "ytgipadecllofkaa", sum := "018249b32dcbd5fbbf67c62465993e6b713adf9c4fc7f5a768dc9ff371cb13d7", func := "loop.example/g00664/laws.FnExactSetReg", spec := "fnExactSetReg", apart := false, narrowed := true }
def FnExactSetRegUptoSaid : Prop := fnExactSetRegUptoRow.holds Try.pinned (OpenSpec.upto fnExactSetRegSpec)

/-- 'laws.FnRegs', WHERE WHAT IT READS IS OF BULK AT MOST 1048576: true; the input reads as it did. -/
def fnRegsUptoRow : OpenClaim := { program := "ytgipadecllofkaa", sum := "018249b32dcbd5fbbf67c62465993e6b713adf9c4fc7f5a768dc9ff371cb13d7", func := "loop.example/g00664/laws.FnRegs", spec := "fnRegs", apart := false, narrowed := true }
def FnRegsUptoSaid : Prop := fnRegsUptoRow.holds Try.pinned (OpenSpec.upto fnRegsSpec)

end Rows
end Go.Proofs.Ytgipadecllofkaa
