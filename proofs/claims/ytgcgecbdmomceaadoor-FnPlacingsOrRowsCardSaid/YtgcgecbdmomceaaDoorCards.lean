/-
  DERIVED. GIVEN WITH THE SEED: THE CARDS: each row of YtgcgecbdmomceaaDoorRows.lean that lists a variable, with what it lists TIED to the program's text (the seventh form; the later family's looks); each row that meets fmt, with fmt's text TOLD by the authors' own Lean function (tested against real Go, not proved from fmt's source: count such statements apart). THE CARD IS WHAT COUNTS. Prove the row's statement (the work); the ties are given (YtgcgecbdmomceaaDoorTie.lean); close each card by the builder's one call (the guide's Derived/Test/ToyasCard.lean, 'card_holds'). Laid BY PROGRAM, IN A SANDBOX (cutbox-door.mjs). By AI agents, Wed Nov 11 2026. No macro, syntax, notation, axiom, sorry.
-/
import Derived.Test.YtgcgecbdmomceaaDoorRows
import GoSem.ClaimSeven
namespace Go.Proofs.YtgcgecbdmomceaaDoor
namespace Rows

/-- THE TIED CARD OF 'laws.FnExactRefusingRows'. -/
def fnExactRefusingRowsCard : Claim7 := { stood := { row := fnExactRefusingRowsRow, standIns := [], harness := (true, "721f804c4a7c8d9a066726623ee6fbd4659eae543c348d6b74fcebb9d20061f2"), looks := false }, kinds := [], alts := [], laidByText := true, laidKinds := [.data, .data], laidTests := true, laidLooks := .later }
def FnExactRefusingRowsCardSaid : Prop := Claim7.holds Tryd.pinned (.plain (OpenSpec.ofChange fnExactRefusingRowsSpec)) fnExactRefusingRowsCard

/-- THE TIED CARD OF 'laws.FnPlacingsOrRows'. -/
def fnPlacingsOrRowsCard : Claim7 := { stood := { row := fnPlacingsOrRowsRow, standIns := [], harness := (true, "721f804c4a7c8d9a066726623ee6fbd4659eae543c348d6b74fcebb9d20061f2"), looks := false }, kinds := [], alts := [], laidByText := true, laidKinds := [.data, .data], laidTests := true, laidLooks := .later }
def FnPlacingsOrRowsCardSaid : Prop := Claim7.holds Tryd.pinned (.plain (OpenSpec.ofChange fnPlacingsOrRowsSpec)) fnPlacingsOrRowsCard

/-- THE SECOND FORM's CARD OF 'laws.FnExactRefusingRows'. -/
def fnExactRefusingRowsUptoCard : Claim7 := { stood := { row := fnExactRefusingRowsUptoRow, standIns := [], harness := (true, "721f804c4a7c8d9a066726623ee6fbd4659eae543c348d6b74fcebb9d20061f2"), looks := false }, kinds := [], alts := [], laidByText := true, laidKinds := [.data, .data], laidTests := true, laidLooks := .later }
def FnExactRefusingRowsUptoCardSaid : Prop := Claim7.holds Tryd.pinned (.plain (OpenSpec.upto fnExactRefusingRowsSpec)) fnExactRefusingRowsUptoCard

/-- THE SECOND FORM's CARD OF 'laws.FnPlacingsOrRows'. -/
def fnPlacingsOrRowsUptoCard : Claim7 := { stood := { row := fnPlacingsOrRowsUptoRow, standIns := [], harness := (true, "721f804c4a7c8d9a066726623ee6fbd4659eae543c348d6b74fcebb9d20061f2"), looks := false }, kinds := [], alts := [], laidByText := true, laidKinds := [.data, .data], laidTests := true, laidLooks := .later }
def FnPlacingsOrRowsUptoCardSaid : Prop := Claim7.holds Tryd.pinned (.plain (OpenSpec.upto fnPlacingsOrRowsSpec)) fnPlacingsOrRowsUptoCard
end Rows
end Go.Proofs.YtgcgecbdmomceaaDoor
