/-
  DERIVED. GIVEN WITH THE SEED: THE CARDS: each row of YtefbphpgaeffaaaGreatDoorRows.lean that lists a variable, with what it lists TIED to the program's text (the seventh form; the later family's looks); each row that meets fmt, with fmt's text TOLD by the authors' own Lean function (tested against real Go, not proved from fmt's source: count such statements apart). THE CARD IS WHAT COUNTS. Prove the row's statement (the work); the ties are given (YtefbphpgaeffaaaGreatDoorTie.lean); close each card by the builder's one call (the guide's Derived/Test/ToyasCard.lean, 'card_holds'). Laid BY PROGRAM, IN A SANDBOX (cutbox-door.mjs). By AI agents, Wed Nov 11 2026. No macro, syntax, notation, axiom, sorry.
-/
import Derived.Test.YtefbphpgaeffaaaGreatDoorRows
import GoSem.ClaimSeven
namespace Go.Proofs.YtefbphpgaeffaaaGreatDoor
namespace Rows

/-- THE TIED CARD OF 'laws.FnLongestPaths'. -/
def fnLongestPathsCard : Claim7 := { stood := { row := fnLongestPathsRow, standIns := [], harness := (true, "688569ae43a01a192042e35744a9a561f1b4a4c080aee19be84b222f228a42d1"), looks := false }, kinds := [], alts := [], laidByText := true, laidKinds := [.data, .data, .data], laidTests := true, laidLooks := .later }
def FnLongestPathsCardSaid : Prop := Claim7.holds Tryz.pinned (.plain (OpenSpec.ofChange fnLongestPathsSpec)) fnLongestPathsCard

/-- THE SECOND FORM's CARD OF 'laws.FnLongestPaths'. -/
def fnLongestPathsUptoCard : Claim7 := { stood := { row := fnLongestPathsUptoRow, standIns := [], harness := (true, "688569ae43a01a192042e35744a9a561f1b4a4c080aee19be84b222f228a42d1"), looks := false }, kinds := [], alts := [], laidByText := true, laidKinds := [.data, .data, .data], laidTests := true, laidLooks := .later }
def FnLongestPathsUptoCardSaid : Prop := Claim7.holds Tryz.pinned (.plain (OpenSpec.upto fnLongestPathsSpec)) fnLongestPathsUptoCard
end Rows
end Go.Proofs.YtefbphpgaeffaaaGreatDoor
