/-
  DERIVED. GIVEN WITH THE SEED: THE CARDS: each row of YtefbphpgaeffaaaDoorRows.lean that lists a variable, with what it lists TIED to the program's text (the seventh form; the later family's looks); each row that meets fmt, with fmt's text TOLD by the authors' own Lean function (tested against real Go, not proved from fmt's source: count such statements apart). THE CARD IS WHAT COUNTS. Prove the row's statement (the work); the ties are given (YtefbphpgaeffaaaDoorTie.lean); close each card by the builder's one call (the guide's Derived/Test/ToyasCard.lean, 'card_holds'). Laid BY PROGRAM, IN A SANDBOX (cutbox-door.mjs). By AI agents, Wed Nov 11 2026. No macro, syntax, notation, axiom, sorry.
-/
import Derived.Test.YtefbphpgaeffaaaDoorRows
import GoSem.ClaimSeven
namespace Go.Proofs.YtefbphpgaeffaaaDoor
namespace Rows

/-- THE TIED CARD OF 'laws.FnExactLongestPath'. -/
def fnExactLongestPathCard : Claim7 := { stood := { row := fnExactLongestPathRow, standIns := [], harness := (true, "7712805dcc3a5e5038aa0ac7681cba2fb848702764e500580ee9efcceca528e6"), looks := false }, kinds := [], alts := [], laidByText := true, laidKinds := [.data, .data, .data], laidTests := true, laidLooks := .later }
def FnExactLongestPathCardSaid : Prop := Claim7.holds Tryd.pinned (.plain (OpenSpec.ofChange fnExactLongestPathSpec)) fnExactLongestPathCard

/-- THE SECOND FORM's CARD OF 'laws.FnExactLongestPath'. -/
def fnExactLongestPathUptoCard : Claim7 := { stood := { row := fnExactLongestPathUptoRow, standIns := [], harness := (true, "7712805dcc3a5e5038aa0ac7681cba2fb848702764e500580ee9efcceca528e6"), looks := false }, kinds := [], alts := [], laidByText := true, laidKinds := [.data, .data, .data], laidTests := true, laidLooks := .later }
def FnExactLongestPathUptoCardSaid : Prop := Claim7.holds Tryd.pinned (.plain (OpenSpec.upto fnExactLongestPathSpec)) fnExactLongestPathUptoCard
end Rows
end Go.Proofs.YtefbphpgaeffaaaDoor
