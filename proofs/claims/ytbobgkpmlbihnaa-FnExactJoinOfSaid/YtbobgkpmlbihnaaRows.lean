/-
  No cell of these rows narrows 'for every input' (looked for: loops, veiled, ifaces, maps, wideKeys, modest, calm, conditions, laid).
  DERIVED. THE GIVEN ROWS OF THIS SEAT. 11 by the template 'for every input the law returns true; each argument reads behind the call as it read before'; 0 by the template 'total and deterministic' (their statements: YtbobgkpmlbihnaaTotals.lean).
  GIVEN WITH THE SEED: the statements are not yours to turn. If you find one false, say at which input.
  Laid BY PROGRAM, IN A SANDBOX (cutbox-rows.mjs): the forced cells as the released guide's own fill.sh prints them over the translation 2ed919bee055bae0… (all of the seat's roots in one cut). By AI agents, Wed Nov 11 2026. No macro, syntax, notation, axiom, sorry.
-/
import Derived.Test.YtbobgkpmlbihnaaChecked
import GoSem.Claim
import GoSem.ClaimJoined
import GoSem.ClaimMapViews
import Derived.JoinedTies
import Derived.KernelRfl
namespace Go.Proofs.Ytbobgkpmlbihnaa
/- THE CELL 'sum', in the pinned program and in every row, IS THE sha256 OF THE DUMP (.gsa) THAT YtbobgkpmlbihnaaProg.lean LOADS. Nothing in Lean hashes anything: it is a label: what it is worth is what the hold of that sum in a sandbox is worth. -/
noncomputable def Try.pinned : Pinned := { name := "ytbobgkpmlbihnaa", sum := "2ed919bee055bae0f47f42469e4ed65477539d459ca527a69f9cf843bd7403e9", checked := Try.checked }
namespace Rows
def none {H : Type} : Left H := { results := [], args := [] }

/-- 'laws.FnExactRankingOf': WHATEVER THE INPUT: true; the input reads as it did. -/
def fnExactRankingOfSpec : ChangeSpec := { name := "fnExactRankingOf", fn := fun _ => fun
  | [d] => { results := [.lit (.bool true)], args := [d] }
  | _ => none }
def fnExactRankingOfRow : OpenClaim := { program := "ytbobgkpmlbihnaa", sum := "2ed919bee055bae0f47f42469e4ed65477539d459ca527a69f9cf843bd7403e9", func := "loop.example/g01113/laws.FnExactRankingOf", spec := "fnExactRankingOf", unfollowed := true, recurses := true, apart := false }
def FnExactRankingOfSaid : Prop := fnExactRankingOfRow.holds Try.pinned (OpenSpec.ofChange fnExactRankingOfSpec)

/-- ITS FALSE NEIGHBOUR: 'it returns false'. Refute it at one input. -/
def fnExactRankingOfWrong : ChangeSpec := { name := "fnExactRankingOf", fn := fun _ => fun
  | [d] => { results := [.lit (.bool false)], args := [d] }
  | _ => none }
def FnExactRankingOfWrongFalsely : Prop := fnExactRankingOfRow.holds Try.pinned (OpenSpec.ofChange fnExactRankingOfWrong)

/-- 'laws.FnExactPartialSums': WHATEVER THE INPUT: true; the input reads as it did. -/
def fnExactPartialSumsSpec : ChangeSpec := { name := "fnExactPartialSums", fn := fun _ => fun
  | [d] => { results := [.lit (.bool true)], args := [d] }
  | _ => none }
def fnExactPartialSumsRow : OpenClaim := { program := "ytbobgkpmlbihnaa", sum := "2ed919bee055bae0f47f42469e4ed65477539d459ca527a69f9cf843bd7403e9", func := "loop.example/g01113/laws.FnExactPartialSums", spec := "fnExactPartialSums", unfollowed := true, recurses := true, apart := false }
def FnExactPartialSumsSaid : Prop := fnExactPartialSumsRow.holds Try.pinned (OpenSpec.ofChange fnExactPartialSumsSpec)

/-- ITS FALSE NEIGHBOUR: 'it returns false'. Refute it at one input. -/
def fnExactPartialSumsWrong : ChangeSpec := { name := "fnExactPartialSums", fn := fun _ => fun
  | [d] => { results := [.lit (.bool false)], args := [d] }
  | _ => none }
def FnExactPartialSumsWrongFalsely : Prop := fnExactPartialSumsRow.holds Try.pinned (OpenSpec.ofChange fnExactPartialSumsWrong)

/-- 'laws.FnExactMixOf': WHATEVER THE INPUT: true; the input reads as it did. -/
def fnExactMixOfSpec : ChangeSpec := { name := "fnExactMixOf", fn := fun _ => fun
  | [d1, d2] => { results := [.lit (.bool true)], args := [d1, d2] }
  | _ => none }
def fnExactMixOfRow : OpenClaim := { program := "ytbobgkpmlbihnaa", sum := "2ed919bee055bae0f47f42469e4ed65477539d459ca527a69f9cf843bd7403e9", func := "loop.example/g01113/laws.FnExactMixOf", spec := "fnExactMixOf", unfollowed := true, recurses := true, apart := false }
def FnExactMixOfSaid : Prop := fnExactMixOfRow.holds Try.pinned (OpenSpec.ofChange fnExactMixOfSpec)

/-- ITS FALSE NEIGHBOUR: 'it returns false'. Refute it at one input. -/
def fnExactMixOfWrong : ChangeSpec := { name := "fnExactMixOf", fn := fun _ => fun
  | [d1, d2] => { results := [.lit (.bool false)], args := [d1, d2] }
  | _ => none }
def FnExactMixOfWrongFalsely : Prop := fnExactMixOfRow.holds Try.pinned (OpenSpec.ofChange fnExactMixOfWrong)

/-- 'laws.FnExactIsWeaklyBelow': WHATEVER THE INPUT: true; the input reads as it did. -/
def fnExactIsWeaklyBelowSpec : ChangeSpec := { name := "fnExactIsWeaklyBelow", fn := fun _ => fun
  | [d1, d2] => { results := [.lit (.bool true)], args := [d1, d2] }
  | _ => none }
def fnExactIsWeaklyBelowRow : OpenClaim := { program := "ytbobgkpmlbihnaa", sum := "2ed919bee055bae0f47f42469e4ed65477539d459ca527a69f9cf843bd7403e9", func := "loop.example/g01113/laws.FnExactIsWeaklyBelow", spec := "fnExactIsWeaklyBelow", unfollowed := true, recurses := true, apart := false }
def FnExactIsWeaklyBelowSaid : Prop := fnExactIsWeaklyBelowRow.holds Try.pinned (OpenSpec.ofChange fnExactIsWeaklyBelowSpec)

/-- ITS FALSE NEIGHBOUR: 'it returns false'. Refute it at one input. -/
def fnExactIsWeaklyBelowWrong : ChangeSpec := { name := "fnExactIsWeaklyBelow", fn := fun _ => fun
  | [d1, d2] => { results := [.lit (.bool false)], args := [d1, d2] }
  | _ => none }
def FnExactIsWeaklyBelowWrongFalsely : Prop := fnExactIsWeaklyBelowRow.holds Try.pinned (OpenSpec.ofChange fnExactIsWeaklyBelowWrong)

/-- 'laws.FnExactRefusalOf': WHATEVER THE INPUT: true; the input reads as it did. -/
def fnExactRefusalOfSpec : ChangeSpec := { name := "fnExactRefusalOf", fn := fun _ => fun
  | [d1, d2] => { results := [.lit (.bool true)], args := [d1, d2] }
  | _ => none }
def fnExactRefusalOfRow : OpenClaim := { program := "ytbobgkpmlbihnaa", sum := "2ed919bee055bae0f47f42469e4ed65477539d459ca527a69f9cf843bd7403e9", func := "loop.example/g01113/laws.FnExactRefusalOf", spec := "fnExactRefusalOf", unfollowed := true, recurses := true, apart := false }
def FnExactRefusalOfSaid : Prop := fnExactRefusalOfRow.holds Try.pinned (OpenSpec.ofChange fnExactRefusalOfSpec)

/-- ITS FALSE NEIGHBOUR: 'it returns false'. Refute it at one input. -/
def fnExactRefusalOfWrong : ChangeSpec := { name := "fnExactRefusalOf", fn := fun _ => fun
  | [d1, d2] => { results := [.lit (.bool false)], args := [d1, d2] }
  | _ => none }
def FnExactRefusalOfWrongFalsely : Prop := fnExactRefusalOfRow.holds Try.pinned (OpenSpec.ofChange fnExactRefusalOfWrong)

/-- 'laws.FnExactIsMajorized': WHATEVER THE INPUT: true; the input reads as it did. -/
def fnExactIsMajorizedSpec : ChangeSpec := { name := "fnExactIsMajorized", fn := fun _ => fun
  | [d1, d2] => { results := [.lit (.bool true)], args := [d1, d2] }
  | _ => none }
def fnExactIsMajorizedRow : OpenClaim := { program := "ytbobgkpmlbihnaa", sum := "2ed919bee055bae0f47f42469e4ed65477539d459ca527a69f9cf843bd7403e9", func := "loop.example/g01113/laws.FnExactIsMajorized", spec := "fnExactIsMajorized", unfollowed := true, recurses := true, apart := false }
def FnExactIsMajorizedSaid : Prop := fnExactIsMajorizedRow.holds Try.pinned (OpenSpec.ofChange fnExactIsMajorizedSpec)

/-- ITS FALSE NEIGHBOUR: 'it returns false'. Refute it at one input. -/
def fnExactIsMajorizedWrong : ChangeSpec := { name := "fnExactIsMajorized", fn := fun _ => fun
  | [d1, d2] => { results := [.lit (.bool false)], args := [d1, d2] }
  | _ => none }
def FnExactIsMajorizedWrongFalsely : Prop := fnExactIsMajorizedRow.holds Try.pinned (OpenSpec.ofChange fnExactIsMajorizedWrong)

/-- 'laws.FnExactMeetOf': WHATEVER THE INPUT: true; the input reads as it did. -/
def fnExactMeetOfSpec : ChangeSpec := { name := "fnExactMeetOf", fn := fun _ => fun
  | [d1, d2] => { results := [.lit (.bool true)], args := [d1, d2] }
  | _ => none }
def fnExactMeetOfRow : OpenClaim := { program := "ytbobgkpmlbihnaa", sum := "2ed919bee055bae0f47f42469e4ed65477539d459ca527a69f9cf843bd7403e9", func := "loop.example/g01113/laws.FnExactMeetOf", spec := "fnExactMeetOf", unfollowed := true, recurses := true, apart := false }
def FnExactMeetOfSaid : Prop := fnExactMeetOfRow.holds Try.pinned (OpenSpec.ofChange fnExactMeetOfSpec)

/-- ITS FALSE NEIGHBOUR: 'it returns false'. Refute it at one input. -/
def fnExactMeetOfWrong : ChangeSpec := { name := "fnExactMeetOf", fn := fun _ => fun
  | [d1, d2] => { results := [.lit (.bool false)], args := [d1, d2] }
  | _ => none }
def FnExactMeetOfWrongFalsely : Prop := fnExactMeetOfRow.holds Try.pinned (OpenSpec.ofChange fnExactMeetOfWrong)

/-- 'laws.FnExactCompareLists': WHATEVER THE INPUT: true; the input reads as it did. -/
def fnExactCompareListsSpec : ChangeSpec := { name := "fnExactCompareLists", fn := fun _ => fun
  | [d1, d2] => { results := [.lit (.bool true)], args := [d1, d2] }
  | _ => none }
def fnExactCompareListsRow : OpenClaim := { program := "ytbobgkpmlbihnaa", sum := "2ed919bee055bae0f47f42469e4ed65477539d459ca527a69f9cf843bd7403e9", func := "loop.example/g01113/laws.FnExactCompareLists", spec := "fnExactCompareLists", unfollowed := true, recurses := true, apart := false }
def FnExactCompareListsSaid : Prop := fnExactCompareListsRow.holds Try.pinned (OpenSpec.ofChange fnExactCompareListsSpec)

/-- ITS FALSE NEIGHBOUR: 'it returns false'. Refute it at one input. -/
def fnExactCompareListsWrong : ChangeSpec := { name := "fnExactCompareLists", fn := fun _ => fun
  | [d1, d2] => { results := [.lit (.bool false)], args := [d1, d2] }
  | _ => none }
def FnExactCompareListsWrongFalsely : Prop := fnExactCompareListsRow.holds Try.pinned (OpenSpec.ofChange fnExactCompareListsWrong)

/-- 'laws.FnExactJoinOf': WHATEVER THE INPUT: true; the input reads as it did. -/
def fnExactJoinOfSpec : ChangeSpec := { name := "fnExactJoinOf", fn := fun _ => fun
  | [d1, d2] => { results := [.lit (.bool true)], args := [d1, d2] }
  | _ => none }
def fnExactJoinOfRow : OpenClaim := { program := "ytbobgkpmlbihnaa", sum := "2ed919bee055bae0f47f42469e4ed65477539d459ca527a69f9cf843bd7403e9", func := "loop.example/g01113/laws.FnExactJoinOf", spec := "fnExactJoinOf", unfollowed := true, recurses := true, apart := false }
def FnExactJoinOfSaid : Prop := fnExactJoinOfRow.holds Try.pinned (OpenSpec.ofChange fnExactJoinOfSpec)

/-- ITS FALSE NEIGHBOUR: 'it returns false'. Refute it at one input. -/
def fnExactJoinOfWrong : ChangeSpec := { name := "fnExactJoinOf", fn := fun _ => fun
  | [d1, d2] => { results := [.lit (.bool false)], args := [d1, d2] }
  | _ => none }
def FnExactJoinOfWrongFalsely : Prop := fnExactJoinOfRow.holds Try.pinned (OpenSpec.ofChange fnExactJoinOfWrong)

/-- 'laws.FnExactBelowOf': WHATEVER THE INPUT: true; the input reads as it did. -/
def fnExactBelowOfSpec : ChangeSpec := { name := "fnExactBelowOf", fn := fun _ => fun
  | [d] => { results := [.lit (.bool true)], args := [d] }
  | _ => none }
def fnExactBelowOfRow : OpenClaim := { program := "ytbobgkpmlbihnaa", sum := "2ed919bee055bae0f47f42469e4ed65477539d459ca527a69f9cf843bd7403e9", func := "loop.example/g01113/laws.FnExactBelowOf", spec := "fnExactBelowOf", unfollowed := true, recurses := true, apart := false }
def FnExactBelowOfSaid : Prop := fnExactBelowOfRow.holds Try.pinned (OpenSpec.ofChange fnExactBelowOfSpec)

/-- ITS FALSE NEIGHBOUR: 'it returns false'. Refute it at one input. -/
def fnExactBelowOfWrong : ChangeSpec := { name := "fnExactBelowOf", fn := fun _ => fun
  | [d] => { results := [.lit (.bool false)], args := [d] }
  | _ => none }
def FnExactBelowOfWrongFalsely : Prop := fnExactBelowOfRow.holds Try.pinned (OpenSpec.ofChange fnExactBelowOfWrong)

/-- 'laws.FnExactLowerCovers': WHATEVER THE INPUT: true; the input reads as it did. -/
def fnExactLowerCoversSpec : ChangeSpec := { name := "fnExactLowerCovers", fn := fun _ => fun
  | [d] => { results := [.lit (.bool true)], args := [d] }
  | _ => none }
def fnExactLowerCoversRow : OpenClaim := { program := "ytbobgkpmlbihnaa", sum := "2ed919bee055bae0f47f42469e4ed65477539d459ca527a69f9cf843bd7403e9", func := "loop.example/g01113/laws.FnExactLowerCovers", spec := "fnExactLowerCovers", unfollowed := true, recurses := true, apart := false }
def FnExactLowerCoversSaid : Prop := fnExactLowerCoversRow.holds Try.pinned (OpenSpec.ofChange fnExactLowerCoversSpec)

/-- ITS FALSE NEIGHBOUR: 'it returns false'. Refute it at one input. -/
def fnExactLowerCoversWrong : ChangeSpec := { name := "fnExactLowerCovers", fn := fun _ => fun
  | [d] => { results := [.lit (.bool false)], args := [d] }
  | _ => none }
def FnExactLowerCoversWrongFalsely : Prop := fnExactLowerCoversRow.holds Try.pinned (OpenSpec.ofChange fnExactLowerCoversWrong)

/- THE SECOND FORM. 'bulk': how many values and letters a reading holds, each counted each time it is reached (what is shared counts as often as it is met; a slice's spare places count too). A statement '..UptoSaid' is the law's where the arguments, and the package variables that the reading takes, are together of bulk at most 1048576: NARROWER than '..Said'. Prove '..Said' where nothing that the law and all that it calls make is longer than what came in: it says more and counts as full. Else prove '..UptoSaid'. A law counts once. -/
mutual
def uptoBulk {H : Type} : DataW H → Nat
  | .lit (.string bytes) => bytes.length + 1
  | .lit _ => 1
  | .nil => 1
  | .ptr d => uptoBulk d + 1
  | .slice elems spare => uptoBulkAll elems + uptoBulkAll spare + 1
  | .agg parts => uptoBulkAll parts + 1
  | .iface _ d => uptoBulk d + 1
  | .map entries => uptoBulkEntries entries + 1
  | .held _ => 1
def uptoBulkAll {H : Type} : List (DataW H) → Nat
  | [] => 0
  | d :: r => uptoBulk d + uptoBulkAll r
def uptoBulkEntries {H : Type} : List (Lit × DataW H) → Nat
  | [] => 0
  | x :: r => uptoBulkEntry x + uptoBulkEntries r
def uptoBulkEntry {H : Type} : Lit × DataW H → Nat
  | (.string bytes, d) => bytes.length + uptoBulk d + 1
  | (_, d) => uptoBulk d + 1
 end
def uptoSmall : (H : Type) → List (DataW H) → Bool := fun _ ds => decide (uptoBulkAll ds ≤ 1048576)
def OpenSpec.upto (s : _root_.Go.ChangeSpec) : _root_.Go.OpenSpec := { _root_.Go.OpenSpec.ofChange s with cond := some uptoSmall }

/-- 'laws.FnExactRankingOf', WHERE WHAT IT READS IS OF BULK AT MOST 1048576: true; the input reads as it did. -/
def fnExactRankingOfUptoRow : OpenClaim := { program := "ytbobgkpmlbihnaa", sum := "2ed919bee055bae0f47f42469e4ed65477539d459ca527a69f9cf843bd7403e9", func := "loop.example/g01113/laws.FnExactRankingOf", spec := "fnExactRankingOf", unfollowed := true, recurses := true, apart := false, narrowed := true }
def FnExactRankingOfUptoSaid : Prop := fnExactRankingOfUptoRow.holds Try.pinned (OpenSpec.upto fnExactRankingOfSpec)

/-- 'laws.FnExactPartialSums', WHERE WHAT IT READS IS OF BULK AT MOST 1048576: true; the input reads as it did. -/
def fnExactPartialSumsUptoRow : OpenClaim := { program := "ytbobgkpmlbihnaa", sum := "2ed919bee055bae0f47f42469e4ed65477539d459ca527a69f9cf843bd7403e9", func := "loop.example/g01113/laws.FnExactPartialSums", spec := "fnExactPartialSums", unfollowed := true, recurses := true, apart := false, narrowed := true }
def FnExactPartialSumsUptoSaid : Prop := fnExactPartialSumsUptoRow.holds Try.pinned (OpenSpec.upto fnExactPartialSumsSpec)

/-- 'laws.FnExactMixOf', WHERE WHAT IT READS IS OF BULK AT MOST 1048576: true; the input reads as it did. -/
def fnExactMixOfUptoRow : OpenClaim := { program := "ytbobgkpmlbihnaa", sum := "2ed919bee055bae0f47f42469e4ed65477539d459ca527a69f9cf843bd7403e9", func := "loop.example/g01113/laws.FnExactMixOf", spec := "fnExactMixOf", unfollowed := true, recurses := true, apart := false, narrowed := true }
def FnExactMixOfUptoSaid : Prop := fnExactMixOfUptoRow.holds Try.pinned (OpenSpec.upto fnExactMixOfSpec)

/-- 'laws.FnExactIsWeaklyBelow', WHERE WHAT IT READS IS OF BULK AT MOST 1048576: true; the input reads as it did. -/
def fnExactIsWeaklyBelowUptoRow : OpenClaim := { program := "ytbobgkpmlbihnaa", sum := "2ed919bee055bae0f47f42469e4ed65477539d459ca527a69f9cf843bd7403e9", func := "loop.example/g01113/laws.FnExactIsWeaklyBelow", spec := "fnExactIsWeaklyBelow", unfollowed := true, recurses := true, apart := false, narrowed := true }
def FnExactIsWeaklyBelowUptoSaid : Prop := fnExactIsWeaklyBelowUptoRow.holds Try.pinned (OpenSpec.upto fnExactIsWeaklyBelowSpec)

/-- 'laws.FnExactRefusalOf', WHERE WHAT IT READS IS OF BULK AT MOST 1048576: true; the input reads as it did. -/
def fnExactRefusalOfUptoRow : OpenClaim := { program := "ytbobgkpmlbihnaa", sum := "2ed919bee055bae0f47f42469e4ed65477539d459ca527a69f9cf843bd7403e9", func := "loop.example/g01113/laws.FnExactRefusalOf", spec := "fnExactRefusalOf", unfollowed := true, recurses := true, apart := false, narrowed := true }
def FnExactRefusalOfUptoSaid : Prop := fnExactRefusalOfUptoRow.holds Try.pinned (OpenSpec.upto fnExactRefusalOfSpec)

/-- 'laws.FnExactIsMajorized', WHERE WHAT IT READS IS OF BULK AT MOST 1048576: true; the input reads as it did. -/
def fnExactIsMajorizedUptoRow : OpenClaim := { program := "ytbobgkpmlbihnaa", sum := "2ed919bee055bae0f47f42469e4ed65477539d459ca527a69f9cf843bd7403e9", func := "loop.example/g01113/laws.FnExactIsMajorized", spec := "fnExactIsMajorized", unfollowed := true, recurses := true, apart := false, narrowed := true }
def FnExactIsMajorizedUptoSaid : Prop := fnExactIsMajorizedUptoRow.holds Try.pinned (OpenSpec.upto fnExactIsMajorizedSpec)

/-- 'laws.FnExactMeetOf', WHERE WHAT IT READS IS OF BULK AT MOST 1048576: true; the input reads as it did. -/
def fnExactMeetOfUptoRow : OpenClaim := { program := "ytbobgkpmlbihnaa", sum := "2ed919bee055bae0f47f42469e4ed65477539d459ca527a69f9cf843bd7403e9", func := "loop.example/g01113/laws.FnExactMeetOf", spec := "fnExactMeetOf", unfollowed := true, recurses := true, apart := false, narrowed := true }
def FnExactMeetOfUptoSaid : Prop := fnExactMeetOfUptoRow.holds Try.pinned (OpenSpec.upto fnExactMeetOfSpec)

/-- 'laws.FnExactCompareLists', WHERE WHAT IT READS IS OF BULK AT MOST 1048576: true; the input reads as it did. -/
def fnExactCompareListsUptoRow : OpenClaim := { program := "ytbobgkpmlbihnaa", sum := "2ed919bee055bae0f47f42469e4ed65477539d459ca527a69f9cf843bd7403e9", func := "loop.example/g01113/laws.FnExactCompareLists", spec := "fnExactCompareLists", unfollowed := true, recurses := true, apart := false, narrowed := true }
def FnExactCompareListsUptoSaid : Prop := fnExactCompareListsUptoRow.holds Try.pinned (OpenSpec.upto fnExactCompareListsSpec)

/-- 'laws.FnExactJoinOf', WHERE WHAT IT READS IS OF BULK AT MOST 1048576: true; the input reads as it did. -/
def fnExactJoinOfUptoRow : OpenClaim := { program := "ytbobgkpmlbihnaa", sum := "2ed919bee055bae0f47f42469e4ed65477539d459ca527a69f9cf843bd7403e9", func := "loop.example/g01113/laws.FnExactJoinOf", spec := "fnExactJoinOf", unfollowed := true, recurses := true, apart := false, narrowed := true }
def FnExactJoinOfUptoSaid : Prop := fnExactJoinOfUptoRow.holds Try.pinned (OpenSpec.upto fnExactJoinOfSpec)

/-- 'laws.FnExactBelowOf', WHERE WHAT IT READS IS OF BULK AT MOST 1048576: true; the input reads as it did. -/
def fnExactBelowOfUptoRow : OpenClaim := { program := "ytbobgkpmlbihnaa", sum := "2ed919bee055bae0f47f42469e4ed65477539d459ca527a69f9cf843bd7403e9", func := "loop.example/g01113/laws.FnExactBelowOf", spec := "fnExactBelowOf", unfollowed := true, recurses := true, apart := false, narrowed := true }
def FnExactBelowOfUptoSaid : Prop := fnExactBelowOfUptoRow.holds Try.pinned (OpenSpec.upto fnExactBelowOfSpec)

/-- 'laws.FnExactLowerCovers', WHERE WHAT IT READS IS OF BULK AT MOST 1048576: true; the input reads as it did. -/
def fnExactLowerCoversUptoRow : OpenClaim := { program := "ytbobgkpmlbihnaa", sum := "2ed919bee055bae0f47f42469e4ed65477539d459ca527a69f9cf843bd7403e9", func := "loop.example/g01113/laws.FnExactLowerCovers", spec := "fnExactLowerCovers", unfollowed := true, recurses := true, apart := false, narrowed := true }
def FnExactLowerCoversUptoSaid : Prop := fnExactLowerCoversUptoRow.holds Try.pinned (OpenSpec.upto fnExactLowerCoversSpec)

end Rows
end Go.Proofs.Ytbobgkpmlbihnaa
