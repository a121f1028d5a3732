/-
  No cell of these rows narrows 'for every input' (looked for: loops, veiled, ifaces, maps, wideKeys, modest, calm, conditions, laid).
  DERIVED. THE GIVEN ROWS OF THIS SEAT. 3 by the template 'for every input the law returns true; each argument reads behind the call as it read before'; 0 by the template 'total and deterministic' (their statements: YtdkimdlbjeobiaaTotals.lean).
  GIVEN WITH THE SEED: the statements are not yours to turn. If you find one false, say at which input.
  Laid BY PROGRAM, IN A SANDBOX (cutbox-rows.mjs): the forced cells as the released guide's own fill.sh prints them over the translation 35f7676fed609ea7… (all of the seat's roots in one cut). By AI agents, Wed Nov 11 2026. No macro, syntax, notation, axiom, sorry.
-/
import Derived.Test.YtdkimdlbjeobiaaChecked
import GoSem.Claim
import GoSem.ClaimJoined
import GoSem.ClaimMapViews
import Derived.JoinedTies
import Derived.KernelRfl
namespace Go.Proofs.Ytdkimdlbjeobiaa
/- THE CELL 'sum', in the pinned program and in every row, IS THE sha256 OF THE DUMP (.gsa) THAT YtdkimdlbjeobiaaProg.lean LOADS. Nothing in Lean hashes anything: it is a label: what it is worth is what the hold of that sum in a sandbox is worth. -/
noncomputable def Try.pinned : Pinned := { name := "ytdkimdlbjeobiaa", sum := "35f7676fed609ea7dba5af35f19ffd6b528f333e7910bb2cfdc637041c6df9b1", checked := Try.checked }
namespace Rows
def none {H : Type} : Left H := { results := [], args := [] }

/-- 'laws.FnExactLowerCovers': WHATEVER THE INPUT: true; the input reads as it did. -/
def fnExactLowerCoversSpec : ChangeSpec := { name := "fnExactLowerCovers", fn := fun _ => fun
  | [d] => { results := [.lit (.bool true)], args := [d] }
  | _ => none }
def fnExactLowerCoversRow : OpenClaim := { program := "ytdkimdlbjeobiaa", sum := "35f7676fed609ea7dba5af35f19ffd6b528f333e7910bb2cfdc637041c6df9b1", func := "loop.example/g01113/laws.FnExactLowerCovers", spec := "fnExactLowerCovers", unfollowed := true, recurses := true, apart := false }
def FnExactLowerCoversSaid : Prop := fnExactLowerCoversRow.holds Try.pinned (OpenSpec.ofChange fnExactLowerCoversSpec)

/-- ITS FALSE NEIGHBOUR: 'it returns false'. Refute it at one input. -/
def fnExactLowerCoversWrong : ChangeSpec := { name := "fnExactLowerCovers", fn := fun _ => fun
  | [d] => { results := [.lit (.bool false)], args := [d] }
  | _ => none }
def FnExactLowerCoversWrongFalsely : Prop := fnExactLowerCoversRow.holds Try.pinned (OpenSpec.ofChange fnExactLowerCoversWrong)

/-- 'laws.FnMeetsAndJoins': WHATEVER THE INPUT: true; the input reads as it did. -/
def fnMeetsAndJoinsSpec : ChangeSpec := { name := "fnMeetsAndJoins", fn := fun _ => fun
  | [d1, d2] => { results := [.lit (.bool true)], args := [d1, d2] }
  | _ => none }
def fnMeetsAndJoinsRow : OpenClaim := { program := "ytdkimdlbjeobiaa", sum := "35f7676fed609ea7dba5af35f19ffd6b528f333e7910bb2cfdc637041c6df9b1", func := "loop.example/g01113/laws.FnMeetsAndJoins", spec := "fnMeetsAndJoins", unfollowed := true, recurses := true, apart := false }
def FnMeetsAndJoinsSaid : Prop := fnMeetsAndJoinsRow.holds Try.pinned (OpenSpec.ofChange fnMeetsAndJoinsSpec)

/-- ITS FALSE NEIGHBOUR: 'it returns false'. Refute it at one input. -/
def fnMeetsAndJoinsWrong : ChangeSpec := { name := "fnMeetsAndJoins", fn := fun _ => fun
  | [d1, d2] => { results := [.lit (.bool false)], args := [d1, d2] }
  | _ => none }
def FnMeetsAndJoinsWrongFalsely : Prop := fnMeetsAndJoinsRow.holds Try.pinned (OpenSpec.ofChange fnMeetsAndJoinsWrong)

/-- 'laws.FnCoversOfLists': WHATEVER THE INPUT: true; the input reads as it did. -/
def fnCoversOfListsSpec : ChangeSpec := { name := "fnCoversOfLists", fn := fun _ => fun
  | [d1, d2] => { results := [.lit (.bool true)], args := [d1, d2] }
  | _ => none }
def fnCoversOfListsRow : OpenClaim := { program := "ytdkimdlbjeobiaa", sum := "35f7676fed609ea7dba5af35f19ffd6b528f333e7910bb2cfdc637041c6df9b1", func := "loop.example/g01113/laws.FnCoversOfLists", spec := "fnCoversOfLists", unfollowed := true, recurses := true, apart := false }
def FnCoversOfListsSaid : Prop := fnCoversOfListsRow.holds Try.pinned (OpenSpec.ofChange fnCoversOfListsSpec)

/-- ITS FALSE NEIGHBOUR: 'it returns false'. Refute it at one input. -/
def fnCoversOfListsWrong : ChangeSpec := { name := "fnCoversOfLists", fn := fun _ => fun
  | [d1, d2] => { results := [.lit (.bool false)], args := [d1, d2] }
  | _ => none }
def FnCoversOfListsWrongFalsely : Prop := fnCoversOfListsRow.holds Try.pinned (OpenSpec.ofChange fnCoversOfListsWrong)

/- THE SECOND FORM. 'bulk': how many values and letters a reading holds, each counted each time it is reached (what is shared counts as often as it is met; a slice's spare places count too). A statement '..UptoSaid' is the law's where the arguments, and the package variables that the reading takes, are together of bulk at most 1048576: NARROWER than '..Said'. Prove '..Said' where nothing that the law and all that it calls make is longer than what came in: it says more and counts as full. Else prove '..UptoSaid'. A law counts once. -/
mutual
def uptoBulk {H : Type} : DataW H → Nat
  | .lit (.string bytes) => bytes.length + 1
  | .lit _ => 1
  | .nil => 1
  | .ptr d => uptoBulk d + 1
  | .slice elems spare => uptoBulkAll elems + uptoBulkAll spare + 1
  | .agg parts => uptoBulkAll parts + 1
  | .iface _ d => uptoBulk d + 1
  | .map entries => uptoBulkEntries entries + 1
  | .held _ => 1
def uptoBulkAll {H : Type} : List (DataW H) → Nat
  | [] => 0
  | d :: r => uptoBulk d + uptoBulkAll r
def uptoBulkEntries {H : Type} : List (Lit × DataW H) → Nat
  | [] => 0
  | x :: r => uptoBulkEntry x + uptoBulkEntries r
def uptoBulkEntry {H : Type} : Lit × DataW H → Nat
  | (.string bytes, d) => bytes.length + uptoBulk d + 1
  | (_, d) => uptoBulk d + 1
 end
def uptoSmall : (H : Type) → List (DataW H) → Bool := fun _ ds => decide (uptoBulkAll ds ≤ 1048576)
def OpenSpec.upto (s : _root_.Go.ChangeSpec) : _root_.Go.OpenSpec := { _root_.Go.OpenSpec.ofChange s with cond := some uptoSmall }

/-- 'laws.FnExactLowerCovers', WHERE WHAT IT READS IS OF BULK AT MOST 1048576: true; the input reads as it did. -/
def fnExactLowerCoversUptoRow : OpenClaim := { program := "ytdkimdlbjeobiaa", sum := "35f7676fed609ea7dba5af35f19ffd6b528f333e7910bb2cfdc637041c6df9b1", func := "loop.example/g01113/laws.FnExactLowerCovers", spec := "fnExactLowerCovers", unfollowed := true, recurses := true, apart := false, narrowed := true }
def FnExactLowerCoversUptoSaid : Prop := fnExactLowerCoversUptoRow.holds Try.pinned (OpenSpec.upto fnExactLowerCoversSpec)

/-- 'laws.FnMeetsAndJoins', WHERE WHAT IT READS IS OF BULK AT MOST 1048576: true; the input reads as it did. -/
def fnMeetsAndJoinsUptoRow : OpenClaim := { program := "ytdkimdlbjeobiaa", sum := "35f7676fed609ea7dba5af35f19ffd6b528f333e7910bb2cfdc637041c6df9b1", func := "loop.example/g01113/laws.FnMeetsAndJoins", spec := "fnMeetsAndJoins", unfollowed := true, recurses := true, apart := false, narrowed := true }
def FnMeetsAndJoinsUptoSaid : Prop := fnMeetsAndJoinsUptoRow.holds Try.pinned (OpenSpec.upto fnMeetsAndJoinsSpec)

/-- 'laws.FnCoversOfLists', WHERE WHAT IT READS IS OF BULK AT MOST 1048576: true; the input reads as it did. -/
def fnCoversOfListsUptoRow : OpenClaim := { program := "ytdkimdlbjeobiaa", sum := "35f7676fed609ea7dba5af35f19ffd6b528f333e7910bb2cfdc637041c6df9b1", func := "loop.example/g01113/laws.FnCoversOfLists", spec := "fnCoversOfLists", unfollowed := true, recurses := true, apart := false, narrowed := true }
def FnCoversOfListsUptoSaid : Prop := fnCoversOfListsUptoRow.holds Try.pinned (OpenSpec.upto fnCoversOfListsSpec)

end Rows
end Go.Proofs.Ytdkimdlbjeobiaa
