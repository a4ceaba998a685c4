/-
  DERIVED. GIVEN WITH THE SEED: THE CARDS: each row of YtkaffpbclanoeaaDoorRows.lean that lists a variable, with what it lists TIED to the program's text (the seventh form; the later family's looks); each row that meets fmt, with fmt's text TOLD by the authors' own Lean function (tested against real Go, not proved from fmt's source: count such statements apart). THE CARD IS WHAT COUNTS. Prove the row's statement (the work); the ties are given (YtkaffpbclanoeaaDoorTie.lean); close each card by the builder's one call (the guide's Derived/Test/ToyasCard.lean, 'card_holds'). Laid BY PROGRAM, IN A SANDBOX (cutbox-door.mjs). By AI agents, Wed Nov 11 2026. No macro, syntax, notation, axiom, sorry.
-/
import Derived.Test.YtkaffpbclanoeaaDoorRows
import GoSem.ClaimSeven
namespace Go.Proofs.YtkaffpbclanoeaaDoor
namespace Rows

/-- THE TIED CARD OF 'laws.FnExactRegName'. -/
def fnExactRegNameCard : Claim7 := { stood := { row := fnExactRegNameRow, standIns := [], harness := (true, "d5b01f7f2790a1c13065ae1de84a9d7501e6671690f4cc61a5d387add4a3913d"), looks := false }, kinds := [], alts := [], laidByText := true, laidKinds := [.data, .data, .data], laidTests := true, laidLooks := .later }
def FnExactRegNameCardSaid : Prop := Claim7.holds Tryd.pinned (.plain (OpenSpec.ofChange fnExactRegNameSpec)) fnExactRegNameCard

/-- THE TIED CARD OF 'laws.FnExactRegOf'. -/
def fnExactRegOfCard : Claim7 := { stood := { row := fnExactRegOfRow, standIns := [], harness := (true, "d5b01f7f2790a1c13065ae1de84a9d7501e6671690f4cc61a5d387add4a3913d"), looks := false }, kinds := [], alts := [], laidByText := true, laidKinds := [.data, .data, .data], laidTests := true, laidLooks := .later }
def FnExactRegOfCardSaid : Prop := Claim7.holds Tryd.pinned (.plain (OpenSpec.ofChange fnExactRegOfSpec)) fnExactRegOfCard

/-- THE TIED CARD OF 'laws.FnNames'. -/
def fnNamesCard : Claim7 := { stood := { row := fnNamesRow, standIns := [], harness := (true, "d5b01f7f2790a1c13065ae1de84a9d7501e6671690f4cc61a5d387add4a3913d"), looks := false }, kinds := [], alts := [], laidByText := true, laidKinds := [.data, .data, .data], laidTests := true, laidLooks := .later }
def FnNamesCardSaid : Prop := Claim7.holds Tryd.pinned (.plain (OpenSpec.ofChange fnNamesSpec)) fnNamesCard

/-- THE SECOND FORM's CARD OF 'laws.FnExactRegName'. -/
def fnExactRegNameUptoCard : Claim7 := { stood := { row := fnExactRegNameUptoRow, standIns := [], harness := (true, "d5b01f7f2790a1c13065ae1de84a9d7501e6671690f4cc61a5d387add4a3913d"), looks := false }, kinds := [], alts := [], laidByText := true, laidKinds := [.data, .data, .data], laidTests := true, laidLooks := .later }
def FnExactRegNameUptoCardSaid : Prop := Claim7.holds Tryd.pinned (.plain (OpenSpec.upto fnExactRegNameSpec)) fnExactRegNameUptoCard

/-- THE SECOND FORM's CARD OF 'laws.FnExactRegOf'. -/
def fnExactRegOfUptoCard : Claim7 := { stood := { row := fnExactRegOfUptoRow, standIns := [], harness := (true, "d5b01f7f2790a1c13065ae1de84a9d7501e6671690f4cc61a5d387add4a3913d"), looks := false }, kinds := [], alts := [], laidByText := true, laidKinds := [.data, .data, .data], laidTests := true, laidLooks := .later }
def FnExactRegOfUptoCardSaid : Prop := Claim7.holds Tryd.pinned (.plain (OpenSpec.upto fnExactRegOfSpec)) fnExactRegOfUptoCard

/-- THE SECOND FORM's CARD OF 'laws.FnNames'. -/
def fnNamesUptoCard : Claim7 := { stood := { row := fnNamesUptoRow, standIns := [], harness := (true, "d5b01f7f2790a1c13065ae1de84a9d7501e6671690f4cc61a5d387add4a3913d"), looks := false }, kinds := [], alts := [], laidByText := true, laidKinds := [.data, .data, .data], laidTests := true, laidLooks := .later }
def FnNamesUptoCardSaid : Prop := Claim7.holds Tryd.pinned (.plain (OpenSpec.upto fnNamesSpec)) fnNamesUptoCard
end Rows
end Go.Proofs.YtkaffpbclanoeaaDoor
