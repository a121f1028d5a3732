/-
  No cell of these rows narrows 'for every input' (looked for: loops, veiled, ifaces, maps, wideKeys, modest, calm, conditions, laid).
  DERIVED. THE GIVEN ROWS OF THIS SEAT. 10 by the template 'for every input the law returns true; each argument reads behind the call as it read before'; 0 by the template 'total and deterministic' (their statements: YtnlimjejllakoaaTotals.lean).
  GIVEN WITH THE SEED: the statements are not yours to turn. If you find one false, say at which input.
  Laid BY PROGRAM, IN A SANDBOX (cutbox-rows.mjs): the forced cells as the released guide's own fill.sh prints them over the translation 2a5e508c61bfd784… (all of the seat's roots in one cut). By AI agents, Wed Nov 11 2026. No macro, syntax, notation, axiom, sorry.
-/
import Derived.Test.YtnlimjejllakoaaChecked
import GoSem.Claim
import GoSem.ClaimJoined
import GoSem.ClaimMapViews
import Derived.JoinedTies
import Derived.KernelRfl
namespace Go.Proofs.Ytnlimjejllakoaa
/- THE CELL 'sum', in the pinned program and in every row, IS THE sha256 OF THE DUMP (.gsa) THAT YtnlimjejllakoaaProg.lean LOADS. Nothing in Lean hashes anything: it is a label: what it is worth is what the hold of that sum in a sandbox is worth. -/
noncomputable def Try.pinned : Pinned := { name := "ytnlimjejllakoaa", sum := "2a5e508c61bfd7840225678e407a969c2446e6298df607a303020cf63e46d3c9", checked := Try.checked }
namespace Rows
def none {H : Type} : Left H := { results := [], args := [] }

/-- 'laws.FnMostEvenLists': WHATEVER THE INPUT: true; the input reads as it did. -/
def fnMostEvenListsSpec : ChangeSpec := { name := "fnMostEvenLists", fn := fun _ => fun
  | [d1, d2] => { results := [.lit (.bool true)], args := [d1, d2] }
  | _ => none }
def fnMostEvenListsRow : OpenClaim := { program := "ytnlimjejllakoaa", sum := "2a5e508c61bfd7840225678e407a969c2446e6298df607a303020cf63e46d3c9", func := "loop.example/g01113/laws.FnMostEvenLists", spec := "fnMostEvenLists", unfollowed := true, recurses := true, apart := false }
def FnMostEvenListsSaid : Prop := fnMostEvenListsRow.holds Try.pinned (OpenSpec.ofChange fnMostEvenListsSpec)

/-- ITS FALSE NEIGHBOUR: 'it returns false'. Refute it at one input. -/
def fnMostEvenListsWrong : ChangeSpec := { name := "fnMostEvenLists", fn := fun _ => fun
  | [d1, d2] => { results := [.lit (.bool false)], args := [d1, d2] }
  | _ => none }
def FnMostEvenListsWrongFalsely : Prop := fnMostEvenListsRow.holds Try.pinned (OpenSpec.ofChange fnMostEvenListsWrong)

/-- 'laws.FnConjugatesTurn': WHATEVER THE INPUT: true; the input reads as it did. -/
def fnConjugatesTurnSpec : ChangeSpec := { name := "fnConjugatesTurn", fn := fun _ => fun
  | [d1, d2] => { results := [.lit (.bool true)], args := [d1, d2] }
  | _ => none }
def fnConjugatesTurnRow : OpenClaim := { program := "ytnlimjejllakoaa", sum := "2a5e508c61bfd7840225678e407a969c2446e6298df607a303020cf63e46d3c9", func := "loop.example/g01113/laws.FnConjugatesTurn", spec := "fnConjugatesTurn", unfollowed := true, recurses := true, apart := false }
def FnConjugatesTurnSaid : Prop := fnConjugatesTurnRow.holds Try.pinned (OpenSpec.ofChange fnConjugatesTurnSpec)

/-- ITS FALSE NEIGHBOUR: 'it returns false'. Refute it at one input. -/
def fnConjugatesTurnWrong : ChangeSpec := { name := "fnConjugatesTurn", fn := fun _ => fun
  | [d1, d2] => { results := [.lit (.bool false)], args := [d1, d2] }
  | _ => none }
def FnConjugatesTurnWrongFalsely : Prop := fnConjugatesTurnRow.holds Try.pinned (OpenSpec.ofChange fnConjugatesTurnWrong)

/-- 'laws.FnKindGifts': WHATEVER THE INPUT: true; the input reads as it did. -/
def fnKindGiftsSpec : ChangeSpec := { name := "fnKindGifts", fn := fun _ => fun
  | [d1, d2] => { results := [.lit (.bool true)], args := [d1, d2] }
  | _ => none }
def fnKindGiftsRow : OpenClaim := { program := "ytnlimjejllakoaa", sum := "2a5e508c61bfd7840225678e407a969c2446e6298df607a303020cf63e46d3c9", func := "loop.example/g01113/laws.FnKindGifts", spec := "fnKindGifts", unfollowed := true, recurses := true, apart := false }
def FnKindGiftsSaid : Prop := fnKindGiftsRow.holds Try.pinned (OpenSpec.ofChange fnKindGiftsSpec)

/-- ITS FALSE NEIGHBOUR: 'it returns false'. Refute it at one input. -/
def fnKindGiftsWrong : ChangeSpec := { name := "fnKindGifts", fn := fun _ => fun
  | [d1, d2] => { results := [.lit (.bool false)], args := [d1, d2] }
  | _ => none }
def FnKindGiftsWrongFalsely : Prop := fnKindGiftsRow.holds Try.pinned (OpenSpec.ofChange fnKindGiftsWrong)

/-- 'laws.FnMixesAndStacks': WHATEVER THE INPUT: true; the input reads as it did. -/
def fnMixesAndStacksSpec : ChangeSpec := { name := "fnMixesAndStacks", fn := fun _ => fun
  | [d1, d2] => { results := [.lit (.bool true)], args := [d1, d2] }
  | _ => none }
def fnMixesAndStacksRow : OpenClaim := { program := "ytnlimjejllakoaa", sum := "2a5e508c61bfd7840225678e407a969c2446e6298df607a303020cf63e46d3c9", func := "loop.example/g01113/laws.FnMixesAndStacks", spec := "fnMixesAndStacks", unfollowed := true, recurses := true, apart := false }
def FnMixesAndStacksSaid : Prop := fnMixesAndStacksRow.holds Try.pinned (OpenSpec.ofChange fnMixesAndStacksSpec)

/-- ITS FALSE NEIGHBOUR: 'it returns false'. Refute it at one input. -/
def fnMixesAndStacksWrong : ChangeSpec := { name := "fnMixesAndStacks", fn := fun _ => fun
  | [d1, d2] => { results := [.lit (.bool false)], args := [d1, d2] }
  | _ => none }
def FnMixesAndStacksWrongFalsely : Prop := fnMixesAndStacksRow.holds Try.pinned (OpenSpec.ofChange fnMixesAndStacksWrong)

/-- 'laws.FnPartialSumsDecide': WHATEVER THE INPUT: true; the input reads as it did. -/
def fnPartialSumsDecideSpec : ChangeSpec := { name := "fnPartialSumsDecide", fn := fun _ => fun
  | [d1, d2] => { results := [.lit (.bool true)], args := [d1, d2] }
  | _ => none }
def fnPartialSumsDecideRow : OpenClaim := { program := "ytnlimjejllakoaa", sum := "2a5e508c61bfd7840225678e407a969c2446e6298df607a303020cf63e46d3c9", func := "loop.example/g01113/laws.FnPartialSumsDecide", spec := "fnPartialSumsDecide", unfollowed := true, recurses := true, apart := false }
def FnPartialSumsDecideSaid : Prop := fnPartialSumsDecideRow.holds Try.pinned (OpenSpec.ofChange fnPartialSumsDecideSpec)

/-- ITS FALSE NEIGHBOUR: 'it returns false'. Refute it at one input. -/
def fnPartialSumsDecideWrong : ChangeSpec := { name := "fnPartialSumsDecide", fn := fun _ => fun
  | [d1, d2] => { results := [.lit (.bool false)], args := [d1, d2] }
  | _ => none }
def FnPartialSumsDecideWrongFalsely : Prop := fnPartialSumsDecideRow.holds Try.pinned (OpenSpec.ofChange fnPartialSumsDecideWrong)

/-- 'laws.FnMeetsAndJoins': WHATEVER THE INPUT: true; the input reads as it did. -/
def fnMeetsAndJoinsSpec : ChangeSpec := { name := "fnMeetsAndJoins", fn := fun _ => fun
  | [d1, d2] => { results := [.lit (.bool true)], args := [d1, d2] }
  | _ => none }
def fnMeetsAndJoinsRow : OpenClaim := { program := "ytnlimjejllakoaa", sum := "2a5e508c61bfd7840225678e407a969c2446e6298df607a303020cf63e46d3c9", func := "loop.example/g01113/laws.FnMeetsAndJoins", spec := "fnMeetsAndJoins", unfollowed := true, recurses := true, apart := false }
def FnMeetsAndJoinsSaid : Prop := fnMeetsAndJoinsRow.holds Try.pinned (OpenSpec.ofChange fnMeetsAndJoinsSpec)

/-- ITS FALSE NEIGHBOUR: 'it returns false'. Refute it at one input. -/
def fnMeetsAndJoinsWrong : ChangeSpec := { name := "fnMeetsAndJoins", fn := fun _ => fun
  | [d1, d2] => { results := [.lit (.bool false)], args := [d1, d2] }
  | _ => none }
def FnMeetsAndJoinsWrongFalsely : Prop := fnMeetsAndJoinsRow.holds Try.pinned (OpenSpec.ofChange fnMeetsAndJoinsWrong)

/-- 'laws.FnBigGiftsAreFew': WHATEVER THE INPUT: true; the input reads as it did. -/
def fnBigGiftsAreFewSpec : ChangeSpec := { name := "fnBigGiftsAreFew", fn := fun _ => fun
  | [d1, d2] => { results := [.lit (.bool true)], args := [d1, d2] }
  | _ => none }
def fnBigGiftsAreFewRow : OpenClaim := { program := "ytnlimjejllakoaa", sum := "2a5e508c61bfd7840225678e407a969c2446e6298df607a303020cf63e46d3c9", func := "loop.example/g01113/laws.FnBigGiftsAreFew", spec := "fnBigGiftsAreFew", unfollowed := true, recurses := true, apart := false }
def FnBigGiftsAreFewSaid : Prop := fnBigGiftsAreFewRow.holds Try.pinned (OpenSpec.ofChange fnBigGiftsAreFewSpec)

/-- ITS FALSE NEIGHBOUR: 'it returns false'. Refute it at one input. -/
def fnBigGiftsAreFewWrong : ChangeSpec := { name := "fnBigGiftsAreFew", fn := fun _ => fun
  | [d1, d2] => { results := [.lit (.bool false)], args := [d1, d2] }
  | _ => none }
def FnBigGiftsAreFewWrongFalsely : Prop := fnBigGiftsAreFewRow.holds Try.pinned (OpenSpec.ofChange fnBigGiftsAreFewWrong)

/-- 'laws.FnCoversOfLists': WHATEVER THE INPUT: true; the input reads as it did. -/
def fnCoversOfListsSpec : ChangeSpec := { name := "fnCoversOfLists", fn := fun _ => fun
  | [d1, d2] => { results := [.lit (.bool true)], args := [d1, d2] }
  | _ => none }
def fnCoversOfListsRow : OpenClaim := { program := "ytnlimjejllakoaa", sum := "2a5e508c61bfd7840225678e407a969c2446e6298df607a303020cf63e46d3c9", func := "loop.example/g01113/laws.FnCoversOfLists", spec := "fnCoversOfLists", unfollowed := true, recurses := true, apart := false }
def FnCoversOfListsSaid : Prop := fnCoversOfListsRow.holds Try.pinned (OpenSpec.ofChange fnCoversOfListsSpec)

/-- ITS FALSE NEIGHBOUR: 'it returns false'. Refute it at one input. -/
def fnCoversOfListsWrong : ChangeSpec := { name := "fnCoversOfLists", fn := fun _ => fun
  | [d1, d2] => { results := [.lit (.bool false)], args := [d1, d2] }
  | _ => none }
def FnCoversOfListsWrongFalsely : Prop := fnCoversOfListsRow.holds Try.pinned (OpenSpec.ofChange fnCoversOfListsWrong)

/-- 'laws.FnGiftPathsExist': WHATEVER THE INPUT: true; the input reads as it did. -/
def fnGiftPathsExistSpec : ChangeSpec := { name := "fnGiftPathsExist", fn := fun _ => fun
  | [d1, d2] => { results := [.lit (.bool true)], args := [d1, d2] }
  | _ => none }
def fnGiftPathsExistRow : OpenClaim := { program := "ytnlimjejllakoaa", sum := "2a5e508c61bfd7840225678e407a969c2446e6298df607a303020cf63e46d3c9", func := "loop.example/g01113/laws.FnGiftPathsExist", spec := "fnGiftPathsExist", unfollowed := true, recurses := true, apart := false }
def FnGiftPathsExistSaid : Prop := fnGiftPathsExistRow.holds Try.pinned (OpenSpec.ofChange fnGiftPathsExistSpec)

/-- ITS FALSE NEIGHBOUR: 'it returns false'. Refute it at one input. -/
def fnGiftPathsExistWrong : ChangeSpec := { name := "fnGiftPathsExist", fn := fun _ => fun
  | [d1, d2] => { results := [.lit (.bool false)], args := [d1, d2] }
  | _ => none }
def FnGiftPathsExistWrongFalsely : Prop := fnGiftPathsExistRow.holds Try.pinned (OpenSpec.ofChange fnGiftPathsExistWrong)

/-- 'laws.FnAcceptedGiftPaths': WHATEVER THE INPUT: true; the input reads as it did. -/
def fnAcceptedGiftPathsSpec : ChangeSpec := { name := "fnAcceptedGiftPaths", fn := fun _ => fun
  | [d1, d2] => { results := [.lit (.bool true)], args := [d1, d2] }
  | _ => none }
def fnAcceptedGiftPathsRow : OpenClaim := { program := "ytnlimjejllakoaa", sum := "2a5e508c61bfd7840225678e407a969c2446e6298df607a303020cf63e46d3c9", func := "loop.example/g01113/laws.FnAcceptedGiftPaths", spec := "fnAcceptedGiftPaths", unfollowed := true, recurses := true, apart := false }
def FnAcceptedGiftPathsSaid : Prop := fnAcceptedGiftPathsRow.holds Try.pinned (OpenSpec.ofChange fnAcceptedGiftPathsSpec)

/-- ITS FALSE NEIGHBOUR: 'it returns false'. Refute it at one input. -/
def fnAcceptedGiftPathsWrong : ChangeSpec := { name := "fnAcceptedGiftPaths", fn := fun _ => fun
  | [d1, d2] => { results := [.lit (.bool false)], args := [d1, d2] }
  | _ => none }
def FnAcceptedGiftPathsWrongFalsely : Prop := fnAcceptedGiftPathsRow.holds Try.pinned (OpenSpec.ofChange fnAcceptedGiftPathsWrong)

/- THE SECOND FORM. 'bulk': how many values and letters a reading holds, each counted each time it is reached (what is shared counts as often as it is met; a slice's spare places count too). A statement '..UptoSaid' is the law's where the arguments, and the package variables that the reading takes, are together of bulk at most 1048576: NARROWER than '..Said'. Prove '..Said' where nothing that the law and all that it calls make is longer than what came in: it says more and counts as full. Else prove '..UptoSaid'. A law counts once. -/
mutual
def uptoBulk {H : Type} : DataW H → Nat
  | .lit (.string bytes) => bytes.length + 1
  | .lit _ => 1
  | .nil => 1
  | .ptr d => uptoBulk d + 1
  | .slice elems spare => uptoBulkAll elems + uptoBulkAll spare + 1
  | .agg parts => uptoBulkAll parts + 1
  | .iface _ d => uptoBulk d + 1
  | .map entries => uptoBulkEntries entries + 1
  | .held _ => 1
def uptoBulkAll {H : Type} : List (DataW H) → Nat
  | [] => 0
  | d :: r => uptoBulk d + uptoBulkAll r
def uptoBulkEntries {H : Type} : List (Lit × DataW H) → Nat
  | [] => 0
  | x :: r => uptoBulkEntry x + uptoBulkEntries r
def uptoBulkEntry {H : Type} : Lit × DataW H → Nat
  | (.string bytes, d) => bytes.length + uptoBulk d + 1
  | (_, d) => uptoBulk d + 1
 end
def uptoSmall : (H : Type) → List (DataW H) → Bool := fun _ ds => decide (uptoBulkAll ds ≤ 1048576)
def OpenSpec.upto (s : _root_.Go.ChangeSpec) : _root_.Go.OpenSpec := { _root_.Go.OpenSpec.ofChange s with cond := some uptoSmall }

/-- 'laws.FnMostEvenLists', WHERE WHAT IT READS IS OF BULK AT MOST 1048576: true; the input reads as it did. -/
def fnMostEvenListsUptoRow : OpenClaim := { program := "ytnlimjejllakoaa", sum := "2a5e508c61bfd7840225678e407a969c2446e6298df607a303020cf63e46d3c9", func := "loop.example/g01113/laws.FnMostEvenLists", spec := "fnMostEvenLists", unfollowed := true, recurses := true, apart := false, narrowed := true }
def FnMostEvenListsUptoSaid : Prop := fnMostEvenListsUptoRow.holds Try.pinned (OpenSpec.upto fnMostEvenListsSpec)

/-- 'laws.FnConjugatesTurn', WHERE WHAT IT READS IS OF BULK AT MOST 1048576: true; the input reads as it did. -/
def fnConjugatesTurnUptoRow : OpenClaim := { program := "ytnlimjejllakoaa", sum := "2a5e508c61bfd7840225678e407a969c2446e6298df607a303020cf63e46d3c9", func := "loop.example/g01113/laws.FnConjugatesTurn", spec := "fnConjugatesTurn", unfollowed := true, recurses := true, apart := false, narrowed := true }
def FnConjugatesTurnUptoSaid : Prop := fnConjugatesTurnUptoRow.holds Try.pinned (OpenSpec.upto fnConjugatesTurnSpec)

/-- 'laws.FnKindGifts', WHERE WHAT IT READS IS OF BULK AT MOST 1048576: true; the input reads as it did. -/
def fnKindGiftsUptoRow : OpenClaim := { program := "ytnlimjejllakoaa", sum := "2a5e508c61bfd7840225678e407a969c2446e6298df607a303020cf63e46d3c9", func := "loop.example/g01113/laws.FnKindGifts", spec := "fnKindGifts", unfollowed := true, recurses := true, apart := false, narrowed := true }
def FnKindGiftsUptoSaid : Prop := fnKindGiftsUptoRow.holds Try.pinned (OpenSpec.upto fnKindGiftsSpec)

/-- 'laws.FnMixesAndStacks', WHERE WHAT IT READS IS OF BULK AT MOST 1048576: true; the input reads as it did. -/
def fnMixesAndStacksUptoRow : OpenClaim := { program := "ytnlimjejllakoaa", sum := "2a5e508c61bfd7840225678e407a969c2446e6298df607a303020cf63e46d3c9", func := "loop.example/g01113/laws.FnMixesAndStacks", spec := "fnMixesAndStacks", unfollowed := true, recurses := true, apart := false, narrowed := true }
def FnMixesAndStacksUptoSaid : Prop := fnMixesAndStacksUptoRow.holds Try.pinned (OpenSpec.upto fnMixesAndStacksSpec)

/-- 'laws.FnPartialSumsDecide', WHERE WHAT IT READS IS OF BULK AT MOST 1048576: true; the input reads as it did. -/
def fnPartialSumsDecideUptoRow : OpenClaim := { program := "ytnlimjejllakoaa", sum := "2a5e508c61bfd7840225678e407a969c2446e6298df607a303020cf63e46d3c9", func := "loop.example/g01113/laws.FnPartialSumsDecide", spec := "fnPartialSumsDecide", unfollowed := true, recurses := true, apart := false, narrowed := true }
def FnPartialSumsDecideUptoSaid : Prop := fnPartialSumsDecideUptoRow.holds Try.pinned (OpenSpec.upto fnPartialSumsDecideSpec)

/-- 'laws.FnMeetsAndJoins', WHERE WHAT IT READS IS OF BULK AT MOST 1048576: true; the input reads as it did. -/
def fnMeetsAndJoinsUptoRow : OpenClaim := { program := "ytnlimjejllakoaa", sum := "2a5e508c61bfd7840225678e407a969c2446e6298df607a303020cf63e46d3c9", func := "loop.example/g01113/laws.FnMeetsAndJoins", spec := "fnMeetsAndJoins", unfollowed := true, recurses := true, apart := false, narrowed := true }
def FnMeetsAndJoinsUptoSaid : Prop := fnMeetsAndJoinsUptoRow.holds Try.pinned (OpenSpec.upto fnMeetsAndJoinsSpec)

/-- 'laws.FnBigGiftsAreFew', WHERE WHAT IT READS IS OF BULK AT MOST 1048576: true; the input reads as it did. -/
def fnBigGiftsAreFewUptoRow : OpenClaim := { program := "ytnlimjejllakoaa", sum := "2a5e508c61bfd7840225678e407a969c2446e6298df607a303020cf63e46d3c9", func := "loop.example/g01113/laws.FnBigGiftsAreFew", spec := "fnBigGiftsAreFew", unfollowed := true, recurses := true, apart := false, narrowed := true }
def FnBigGiftsAreFewUptoSaid : Prop := fnBigGiftsAreFewUptoRow.holds Try.pinned (OpenSpec.upto fnBigGiftsAreFewSpec)

/-- 'laws.FnCoversOfLists', WHERE WHAT IT READS IS OF BULK AT MOST 1048576: true; the input reads as it did. -/
def fnCoversOfListsUptoRow : OpenClaim := { program := "ytnlimjejllakoaa", sum := "2a5e508c61bfd7840225678e407a969c2446e6298df607a303020cf63e46d3c9", func := "loop.example/g01113/laws.FnCoversOfLists", spec := "fnCoversOfLists", unfollowed := true, recurses := true, apart := false, narrowed := true }
def FnCoversOfListsUptoSaid : Prop := fnCoversOfListsUptoRow.holds Try.pinned (OpenSpec.upto fnCoversOfListsSpec)

/-- 'laws.FnGiftPathsExist', WHERE WHAT IT READS IS OF BULK AT MOST 1048576: true; the input reads as it did. -/
def fnGiftPathsExistUptoRow : OpenClaim := { program := "ytnlimjejllakoaa", sum := "2a5e508c61bfd7840225678e407a969c2446e6298df607a303020cf63e46d3c9", func := "loop.example/g01113/laws.FnGiftPathsExist", spec := "fnGiftPathsExist", unfollowed := true, recurses := true, apart := false, narrowed := true }
def FnGiftPathsExistUptoSaid : Prop := fnGiftPathsExistUptoRow.holds Try.pinned (OpenSpec.upto fnGiftPathsExistSpec)

/-- 'laws.FnAcceptedGiftPaths', WHERE WHAT IT READS IS OF BULK AT MOST 1048576: true; the input reads as it did. -/
def fnAcceptedGiftPathsUptoRow : OpenClaim := { program := "ytnlimjejllakoaa", sum := "2a5e508c61bfd7840225678e407a969c2446e6298df607a303020cf63e46d3c9", func := "loop.example/g01113/laws.FnAcceptedGiftPaths", spec := "fnAcceptedGiftPaths", unfollowed := true, recurses := true, apart := false, narrowed := true }
def FnAcceptedGiftPathsUptoSaid : Prop := fnAcceptedGiftPathsUptoRow.holds Try.pinned (OpenSpec.upto fnAcceptedGiftPathsSpec)

end Rows
end Go.Proofs.Ytnlimjejllakoaa
