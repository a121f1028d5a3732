/-
  No cell of these rows narrows 'for every input' (looked for: loops, veiled, ifaces, maps, wideKeys, modest, calm, conditions, laid).
  DERIVED. THE GIVEN ROWS OF THIS SEAT. 12 by the template 'for every input the law returns true; each argument reads behind the call as it read before'; 0 by the template 'total and deterministic' (their statements: YtndedonpeenejaaTotals.lean).
  GIVEN WITH THE SEED: the statements are not yours to turn. If you find one false, say at which input.
  Laid BY PROGRAM, IN A SANDBOX (cutbox-rows.mjs): the forced cells as the released guide's own fill.sh prints them over the translation d93f4ad9331f22b1… (all of the seat's roots in one cut). By AI agents, Wed Nov 11 2026. No macro, syntax, notation, axiom, sorry.
-/
import Derived.Test.YtndedonpeenejaaChecked
import GoSem.Claim
import GoSem.ClaimJoined
import GoSem.ClaimMapViews
import Derived.JoinedTies
import Derived.KernelRfl
namespace Go.Proofs.Ytndedonpeenejaa
/- THE CELL 'sum', in the pinned program and in every row, IS THE sha256 OF THE DUMP (.gsa) THAT YtndedonpeenejaaProg.lean LOADS. Nothing in Lean hashes anything: it is a label: what it is worth is what the hold of that sum in a sandbox is worth. -/
noncomputable def Try.pinned : Pinned := { name := "ytndedonpeenejaa", sum := "d93f4ad9331f22b1f856a6fa97e26325da836e92a1021c39b5be5993e795ed8c", checked := Try.checked }
namespace Rows
def none {H : Type} : Left H := { results := [], args := [] }

/-- 'laws.FnExactConstants': WHATEVER THE INPUT: true; the input reads as it did. -/
def fnExactConstantsSpec : ChangeSpec := { name := "fnExactConstants", fn := fun _ => fun
  | [] => { results := [.lit (.bool true)], args := [] }
  | _ => none }
def fnExactConstantsRow : OpenClaim := { program := "ytndedonpeenejaa", sum := "d93f4ad9331f22b1f856a6fa97e26325da836e92a1021c39b5be5993e795ed8c", func := "loop.example/g01113/laws.FnExactConstants", spec := "fnExactConstants", apart := false }
def FnExactConstantsSaid : Prop := fnExactConstantsRow.holds Try.pinned (OpenSpec.ofChange fnExactConstantsSpec)

/-- ITS FALSE NEIGHBOUR: 'it returns false'. Refute it at one input. -/
def fnExactConstantsWrong : ChangeSpec := { name := "fnExactConstants", fn := fun _ => fun
  | [] => { results := [.lit (.bool false)], args := [] }
  | _ => none }
def FnExactConstantsWrongFalsely : Prop := fnExactConstantsRow.holds Try.pinned (OpenSpec.ofChange fnExactConstantsWrong)

/-- 'laws.FnExactIsList': WHATEVER THE INPUT: true; the input reads as it did. -/
def fnExactIsListSpec : ChangeSpec := { name := "fnExactIsList", fn := fun _ => fun
  | [d] => { results := [.lit (.bool true)], args := [d] }
  | _ => none }
def fnExactIsListRow : OpenClaim := { program := "ytndedonpeenejaa", sum := "d93f4ad9331f22b1f856a6fa97e26325da836e92a1021c39b5be5993e795ed8c", func := "loop.example/g01113/laws.FnExactIsList", spec := "fnExactIsList", apart := false }
def FnExactIsListSaid : Prop := fnExactIsListRow.holds Try.pinned (OpenSpec.ofChange fnExactIsListSpec)

/-- ITS FALSE NEIGHBOUR: 'it returns false'. Refute it at one input. -/
def fnExactIsListWrong : ChangeSpec := { name := "fnExactIsList", fn := fun _ => fun
  | [d] => { results := [.lit (.bool false)], args := [d] }
  | _ => none }
def FnExactIsListWrongFalsely : Prop := fnExactIsListRow.holds Try.pinned (OpenSpec.ofChange fnExactIsListWrong)

/-- 'laws.FnExactMostEven': WHATEVER THE INPUT: true; the input reads as it did. -/
def fnExactMostEvenSpec : ChangeSpec := { name := "fnExactMostEven", fn := fun _ => fun
  | [d1, d2] => { results := [.lit (.bool true)], args := [d1, d2] }
  | _ => none }
def fnExactMostEvenRow : OpenClaim := { program := "ytndedonpeenejaa", sum := "d93f4ad9331f22b1f856a6fa97e26325da836e92a1021c39b5be5993e795ed8c", func := "loop.example/g01113/laws.FnExactMostEven", spec := "fnExactMostEven", apart := false }
def FnExactMostEvenSaid : Prop := fnExactMostEvenRow.holds Try.pinned (OpenSpec.ofChange fnExactMostEvenSpec)

/-- ITS FALSE NEIGHBOUR: 'it returns false'. Refute it at one input. -/
def fnExactMostEvenWrong : ChangeSpec := { name := "fnExactMostEven", fn := fun _ => fun
  | [d1, d2] => { results := [.lit (.bool false)], args := [d1, d2] }
  | _ => none }
def FnExactMostEvenWrongFalsely : Prop := fnExactMostEvenRow.holds Try.pinned (OpenSpec.ofChange fnExactMostEvenWrong)

/-- 'laws.FnExactSquareSum': WHATEVER THE INPUT: true; the input reads as it did. -/
def fnExactSquareSumSpec : ChangeSpec := { name := "fnExactSquareSum", fn := fun _ => fun
  | [d] => { results := [.lit (.bool true)], args := [d] }
  | _ => none }
def fnExactSquareSumRow : OpenClaim := { program := "ytndedonpeenejaa", sum := "d93f4ad9331f22b1f856a6fa97e26325da836e92a1021c39b5be5993e795ed8c", func := "loop.example/g01113/laws.FnExactSquareSum", spec := "fnExactSquareSum", apart := false }
def FnExactSquareSumSaid : Prop := fnExactSquareSumRow.holds Try.pinned (OpenSpec.ofChange fnExactSquareSumSpec)

/-- ITS FALSE NEIGHBOUR: 'it returns false'. Refute it at one input. -/
def fnExactSquareSumWrong : ChangeSpec := { name := "fnExactSquareSum", fn := fun _ => fun
  | [d] => { results := [.lit (.bool false)], args := [d] }
  | _ => none }
def FnExactSquareSumWrongFalsely : Prop := fnExactSquareSumRow.holds Try.pinned (OpenSpec.ofChange fnExactSquareSumWrong)

/-- 'laws.FnExactIsPlacing': WHATEVER THE INPUT: true; the input reads as it did. -/
def fnExactIsPlacingSpec : ChangeSpec := { name := "fnExactIsPlacing", fn := fun _ => fun
  | [d] => { results := [.lit (.bool true)], args := [d] }
  | _ => none }
def fnExactIsPlacingRow : OpenClaim := { program := "ytndedonpeenejaa", sum := "d93f4ad9331f22b1f856a6fa97e26325da836e92a1021c39b5be5993e795ed8c", func := "loop.example/g01113/laws.FnExactIsPlacing", spec := "fnExactIsPlacing", apart := false }
def FnExactIsPlacingSaid : Prop := fnExactIsPlacingRow.holds Try.pinned (OpenSpec.ofChange fnExactIsPlacingSpec)

/-- ITS FALSE NEIGHBOUR: 'it returns false'. Refute it at one input. -/
def fnExactIsPlacingWrong : ChangeSpec := { name := "fnExactIsPlacing", fn := fun _ => fun
  | [d] => { results := [.lit (.bool false)], args := [d] }
  | _ => none }
def FnExactIsPlacingWrongFalsely : Prop := fnExactIsPlacingRow.holds Try.pinned (OpenSpec.ofChange fnExactIsPlacingWrong)

/-- 'laws.FnExactIsKind': WHATEVER THE INPUT: true; the input reads as it did. -/
def fnExactIsKindSpec : ChangeSpec := { name := "fnExactIsKind", fn := fun _ => fun
  | [d1, d2] => { results := [.lit (.bool true)], args := [d1, d2] }
  | _ => none }
def fnExactIsKindRow : OpenClaim := { program := "ytndedonpeenejaa", sum := "d93f4ad9331f22b1f856a6fa97e26325da836e92a1021c39b5be5993e795ed8c", func := "loop.example/g01113/laws.FnExactIsKind", spec := "fnExactIsKind", apart := false }
def FnExactIsKindSaid : Prop := fnExactIsKindRow.holds Try.pinned (OpenSpec.ofChange fnExactIsKindSpec)

/-- ITS FALSE NEIGHBOUR: 'it returns false'. Refute it at one input. -/
def fnExactIsKindWrong : ChangeSpec := { name := "fnExactIsKind", fn := fun _ => fun
  | [d1, d2] => { results := [.lit (.bool false)], args := [d1, d2] }
  | _ => none }
def FnExactIsKindWrongFalsely : Prop := fnExactIsKindRow.holds Try.pinned (OpenSpec.ofChange fnExactIsKindWrong)

/-- 'laws.FnExactSquaresFall': WHATEVER THE INPUT: true; the input reads as it did. -/
def fnExactSquaresFallSpec : ChangeSpec := { name := "fnExactSquaresFall", fn := fun _ => fun
  | [d1, d2] => { results := [.lit (.bool true)], args := [d1, d2] }
  | _ => none }
def fnExactSquaresFallRow : OpenClaim := { program := "ytndedonpeenejaa", sum := "d93f4ad9331f22b1f856a6fa97e26325da836e92a1021c39b5be5993e795ed8c", func := "loop.example/g01113/laws.FnExactSquaresFall", spec := "fnExactSquaresFall", apart := false }
def FnExactSquaresFallSaid : Prop := fnExactSquaresFallRow.holds Try.pinned (OpenSpec.ofChange fnExactSquaresFallSpec)

/-- ITS FALSE NEIGHBOUR: 'it returns false'. Refute it at one input. -/
def fnExactSquaresFallWrong : ChangeSpec := { name := "fnExactSquaresFall", fn := fun _ => fun
  | [d1, d2] => { results := [.lit (.bool false)], args := [d1, d2] }
  | _ => none }
def FnExactSquaresFallWrongFalsely : Prop := fnExactSquaresFallRow.holds Try.pinned (OpenSpec.ofChange fnExactSquaresFallWrong)

/-- 'laws.FnExactConjugateOf': WHATEVER THE INPUT: true; the input reads as it did. -/
def fnExactConjugateOfSpec : ChangeSpec := { name := "fnExactConjugateOf", fn := fun _ => fun
  | [d1, d2] => { results := [.lit (.bool true)], args := [d1, d2] }
  | _ => none }
def fnExactConjugateOfRow : OpenClaim := { program := "ytndedonpeenejaa", sum := "d93f4ad9331f22b1f856a6fa97e26325da836e92a1021c39b5be5993e795ed8c", func := "loop.example/g01113/laws.FnExactConjugateOf", spec := "fnExactConjugateOf", apart := false }
def FnExactConjugateOfSaid : Prop := fnExactConjugateOfRow.holds Try.pinned (OpenSpec.ofChange fnExactConjugateOfSpec)

/-- ITS FALSE NEIGHBOUR: 'it returns false'. Refute it at one input. -/
def fnExactConjugateOfWrong : ChangeSpec := { name := "fnExactConjugateOf", fn := fun _ => fun
  | [d1, d2] => { results := [.lit (.bool false)], args := [d1, d2] }
  | _ => none }
def FnExactConjugateOfWrongFalsely : Prop := fnExactConjugateOfRow.holds Try.pinned (OpenSpec.ofChange fnExactConjugateOfWrong)

/-- 'laws.FnExactReverseGift': WHATEVER THE INPUT: true; the input reads as it did. -/
def fnExactReverseGiftSpec : ChangeSpec := { name := "fnExactReverseGift", fn := fun _ => fun
  | [d1, d2] => { results := [.lit (.bool true)], args := [d1, d2] }
  | _ => none }
def fnExactReverseGiftRow : OpenClaim := { program := "ytndedonpeenejaa", sum := "d93f4ad9331f22b1f856a6fa97e26325da836e92a1021c39b5be5993e795ed8c", func := "loop.example/g01113/laws.FnExactReverseGift", spec := "fnExactReverseGift", apart := false }
def FnExactReverseGiftSaid : Prop := fnExactReverseGiftRow.holds Try.pinned (OpenSpec.ofChange fnExactReverseGiftSpec)

/-- ITS FALSE NEIGHBOUR: 'it returns false'. Refute it at one input. -/
def fnExactReverseGiftWrong : ChangeSpec := { name := "fnExactReverseGift", fn := fun _ => fun
  | [d1, d2] => { results := [.lit (.bool false)], args := [d1, d2] }
  | _ => none }
def FnExactReverseGiftWrongFalsely : Prop := fnExactReverseGiftRow.holds Try.pinned (OpenSpec.ofChange fnExactReverseGiftWrong)

/-- 'laws.FnExactStackLists': WHATEVER THE INPUT: true; the input reads as it did. -/
def fnExactStackListsSpec : ChangeSpec := { name := "fnExactStackLists", fn := fun _ => fun
  | [d1, d2] => { results := [.lit (.bool true)], args := [d1, d2] }
  | _ => none }
def fnExactStackListsRow : OpenClaim := { program := "ytndedonpeenejaa", sum := "d93f4ad9331f22b1f856a6fa97e26325da836e92a1021c39b5be5993e795ed8c", func := "loop.example/g01113/laws.FnExactStackLists", spec := "fnExactStackLists", apart := false }
def FnExactStackListsSaid : Prop := fnExactStackListsRow.holds Try.pinned (OpenSpec.ofChange fnExactStackListsSpec)

/-- ITS FALSE NEIGHBOUR: 'it returns false'. Refute it at one input. -/
def fnExactStackListsWrong : ChangeSpec := { name := "fnExactStackLists", fn := fun _ => fun
  | [d1, d2] => { results := [.lit (.bool false)], args := [d1, d2] }
  | _ => none }
def FnExactStackListsWrongFalsely : Prop := fnExactStackListsRow.holds Try.pinned (OpenSpec.ofChange fnExactStackListsWrong)

/-- 'laws.FnExactAllRankings': WHATEVER THE INPUT: true; the input reads as it did. -/
def fnExactAllRankingsSpec : ChangeSpec := { name := "fnExactAllRankings", fn := fun _ => fun
  | [d1, d2] => { results := [.lit (.bool true)], args := [d1, d2] }
  | _ => none }
def fnExactAllRankingsRow : OpenClaim := { program := "ytndedonpeenejaa", sum := "d93f4ad9331f22b1f856a6fa97e26325da836e92a1021c39b5be5993e795ed8c", func := "loop.example/g01113/laws.FnExactAllRankings", spec := "fnExactAllRankings", recurses := true, apart := false }
def FnExactAllRankingsSaid : Prop := fnExactAllRankingsRow.holds Try.pinned (OpenSpec.ofChange fnExactAllRankingsSpec)

/-- ITS FALSE NEIGHBOUR: 'it returns false'. Refute it at one input. -/
def fnExactAllRankingsWrong : ChangeSpec := { name := "fnExactAllRankings", fn := fun _ => fun
  | [d1, d2] => { results := [.lit (.bool false)], args := [d1, d2] }
  | _ => none }
def FnExactAllRankingsWrongFalsely : Prop := fnExactAllRankingsRow.holds Try.pinned (OpenSpec.ofChange fnExactAllRankingsWrong)

/-- 'laws.FnExactDoGift': WHATEVER THE INPUT: true; the input reads as it did. -/
def fnExactDoGiftSpec : ChangeSpec := { name := "fnExactDoGift", fn := fun _ => fun
  | [d1, d2] => { results := [.lit (.bool true)], args := [d1, d2] }
  | _ => none }
def fnExactDoGiftRow : OpenClaim := { program := "ytndedonpeenejaa", sum := "d93f4ad9331f22b1f856a6fa97e26325da836e92a1021c39b5be5993e795ed8c", func := "loop.example/g01113/laws.FnExactDoGift", spec := "fnExactDoGift", apart := false }
def FnExactDoGiftSaid : Prop := fnExactDoGiftRow.holds Try.pinned (OpenSpec.ofChange fnExactDoGiftSpec)

/-- ITS FALSE NEIGHBOUR: 'it returns false'. Refute it at one input. -/
def fnExactDoGiftWrong : ChangeSpec := { name := "fnExactDoGift", fn := fun _ => fun
  | [d1, d2] => { results := [.lit (.bool false)], args := [d1, d2] }
  | _ => none }
def FnExactDoGiftWrongFalsely : Prop := fnExactDoGiftRow.holds Try.pinned (OpenSpec.ofChange fnExactDoGiftWrong)

/- THE SECOND FORM. 'bulk': how many values and letters a reading holds, each counted each time it is reached (what is shared counts as often as it is met; a slice's spare places count too). A statement '..UptoSaid' is the law's where the arguments, and the package variables that the reading takes, are together of bulk at most 1048576: NARROWER than '..Said'. Prove '..Said' where nothing that the law and all that it calls make is longer than what came in: it says more and counts as full. Else prove '..UptoSaid'. A law counts once. -/
mutual
def uptoBulk {H : Type} : DataW H → Nat
  | .lit (.string bytes) => bytes.length + 1
  | .lit _ => 1
  | .nil => 1
  | .ptr d => uptoBulk d + 1
  | .slice elems spare => uptoBulkAll elems + uptoBulkAll spare + 1
  | .agg parts => uptoBulkAll parts + 1
  | .iface _ d => uptoBulk d + 1
  | .map entries => uptoBulkEntries entries + 1
  | .held _ => 1
def uptoBulkAll {H : Type} : List (DataW H) → Nat
  | [] => 0
  | d :: r => uptoBulk d + uptoBulkAll r
def uptoBulkEntries {H : Type} : List (Lit × DataW H) → Nat
  | [] => 0
  | x :: r => uptoBulkEntry x + uptoBulkEntries r
def uptoBulkEntry {H : Type} : Lit × DataW H → Nat
  | (.string bytes, d) => bytes.length + uptoBulk d + 1
  | (_, d) => uptoBulk d + 1
 end
def uptoSmall : (H : Type) → List (DataW H) → Bool := fun _ ds => decide (uptoBulkAll ds ≤ 1048576)
def OpenSpec.upto (s : _root_.Go.ChangeSpec) : _root_.Go.OpenSpec := { _root_.Go.OpenSpec.ofChange s with cond := some uptoSmall }

/-- 'laws.FnExactConstants', WHERE WHAT IT READS IS OF BULK AT MOST 1048576: true; the input reads as it did. -/
def fnExactConstantsUptoRow : OpenClaim := { program := "ytndedonpeenejaa", sum := "d93f4ad9331f22b1f856a6fa97e26325da836e92a1021c39b5be5993e795ed8c", func := "loop.example/g01113/laws.FnExactConstants", spec := "fnExactConstants", apart := false, narrowed := true }
def FnExactConstantsUptoSaid : Prop := fnExactConstantsUptoRow.holds Try.pinned (OpenSpec.upto fnExactConstantsSpec)

/-- 'laws.FnExactIsList', WHERE WHAT IT READS IS OF BULK AT MOST 1048576: true; the input reads as it did. -/
def fnExactIsListUptoRow : OpenClaim := { program := "ytndedonpeenejaa", sum := "d93f4ad9331f22b1f856a6fa97e26325da836e92a1021c39b5be5993e795ed8c", func := "loop.example/g01113/laws.FnExactIsList", spec := "fnExactIsList", apart := false, narrowed := true }
def FnExactIsListUptoSaid : Prop := fnExactIsListUptoRow.holds Try.pinned (OpenSpec.upto fnExactIsListSpec)

/-- 'laws.FnExactMostEven', WHERE WHAT IT READS IS OF BULK AT MOST 1048576: true; the input reads as it did. -/
def fnExactMostEvenUptoRow : OpenClaim := { program := "ytndedonpeenejaa", sum := "d93f4ad9331f22b1f856a6fa97e26325da836e92a1021c39b5be5993e795ed8c", func := "loop.example/g01113/laws.FnExactMostEven", spec := "fnExactMostEven", apart := false, narrowed := true }
def FnExactMostEvenUptoSaid : Prop := fnExactMostEvenUptoRow.holds Try.pinned (OpenSpec.upto fnExactMostEvenSpec)

/-- 'laws.FnExactSquareSum', WHERE WHAT IT READS IS OF BULK AT MOST 1048576: true; the input reads as it did. -/
def fnExactSquareSumUptoRow : OpenClaim := { program := "ytndedonpeenejaa", sum := "d93f4ad9331f22b1f856a6fa97e26325da836e92a1021c39b5be5993e795ed8c", func := "loop.example/g01113/laws.FnExactSquareSum", spec := "fnExactSquareSum", apart := false, narrowed := true }
def FnExactSquareSumUptoSaid : Prop := fnExactSquareSumUptoRow.holds Try.pinned (OpenSpec.upto fnExactSquareSumSpec)

/-- 'laws.FnExactIsPlacing', WHERE WHAT IT READS IS OF BULK AT MOST 1048576: true; the input reads as it did. -/
def fnExactIsPlacingUptoRow : OpenClaim := { program := "ytndedonpeenejaa", sum := "d93f4ad9331f22b1f856a6fa97e26325da836e92a1021c39b5be5993e795ed8c", func := "loop.example/g01113/laws.FnExactIsPlacing", spec := "fnExactIsPlacing", apart := false, narrowed := true }
def FnExactIsPlacingUptoSaid : Prop := fnExactIsPlacingUptoRow.holds Try.pinned (OpenSpec.upto fnExactIsPlacingSpec)

/-- 'laws.FnExactIsKind', WHERE WHAT IT READS IS OF BULK AT MOST 1048576: true; the input reads as it did. -/
def fnExactIsKindUptoRow : OpenClaim := { program := "ytndedonpeenejaa", sum := "d93f4ad9331f22b1f856a6fa97e26325da836e92a1021c39b5be5993e795ed8c", func := "loop.example/g01113/laws.FnExactIsKind", spec := "fnExactIsKind", apart := false, narrowed := true }
def FnExactIsKindUptoSaid : Prop := fnExactIsKindUptoRow.holds Try.pinned (OpenSpec.upto fnExactIsKindSpec)

/-- 'laws.FnExactSquaresFall', WHERE WHAT IT READS IS OF BULK AT MOST 1048576: true; the input reads as it did. -/
def fnExactSquaresFallUptoRow : OpenClaim := { program := "ytndedonpeenejaa", sum := "d93f4ad9331f22b1f856a6fa97e26325da836e92a1021c39b5be5993e795ed8c", func := "loop.example/g01113/laws.FnExactSquaresFall", spec := "fnExactSquaresFall", apart := false, narrowed := true }
def FnExactSquaresFallUptoSaid : Prop := fnExactSquaresFallUptoRow.holds Try.pinned (OpenSpec.upto fnExactSquaresFallSpec)

/-- 'laws.FnExactConjugateOf', WHERE WHAT IT READS IS OF BULK AT MOST 1048576: true; the input reads as it did. -/
def fnExactConjugateOfUptoRow : OpenClaim := { program := "ytndedonpeenejaa", sum := "d93f4ad9331f22b1f856a6fa97e26325da836e92a1021c39b5be5993e795ed8c", func := "loop.example/g01113/laws.FnExactConjugateOf", spec := "fnExactConjugateOf", apart := false, narrowed := true }
def FnExactConjugateOfUptoSaid : Prop := fnExactConjugateOfUptoRow.holds Try.pinned (OpenSpec.upto fnExactConjugateOfSpec)

/-- 'laws.FnExactReverseGift', WHERE WHAT IT READS IS OF BULK AT MOST 1048576: true; the input reads as it did. -/
def fnExactReverseGiftUptoRow : OpenClaim := { program := "ytndedonpeenejaa", sum := "d93f4ad9331f22b1f856a6fa97e26325da836e92a1021c39b5be5993e795ed8c", func := "loop.example/g01113/laws.FnExactReverseGift", spec := "fnExactReverseGift", apart := false, narrowed := true }
def FnExactReverseGiftUptoSaid : Prop := fnExactReverseGiftUptoRow.holds Try.pinned (OpenSpec.upto fnExactReverseGiftSpec)

/-- 'laws.FnExactStackLists', WHERE WHAT IT READS IS OF BULK AT MOST 1048576: true; the input reads as it did. -/
def fnExactStackListsUptoRow : OpenClaim := { program := "ytndedonpeenejaa", sum := "d93f4ad9331f22b1f856a6fa97e26325da836e92a1021c39b5be5993e795ed8c", func := "loop.example/g01113/laws.FnExactStackLists", spec := "fnExactStackLists", apart := false, narrowed := true }
def FnExactStackListsUptoSaid : Prop := fnExactStackListsUptoRow.holds Try.pinned (OpenSpec.upto fnExactStackListsSpec)

/-- 'laws.FnExactAllRankings', WHERE WHAT IT READS IS OF BULK AT MOST 1048576: true; the input reads as it did. -/
def fnExactAllRankingsUptoRow : OpenClaim := { program := "ytndedonpeenejaa", sum := "d93f4ad9331f22b1f856a6fa97e26325da836e92a1021c39b5be5993e795ed8c", func := "loop.example/g01113/laws.FnExactAllRankings", spec := "fnExactAllRankings", recurses := true, apart := false, narrowed := true }
def FnExactAllRankingsUptoSaid : Prop := fnExactAllRankingsUptoRow.holds Try.pinned (OpenSpec.upto fnExactAllRankingsSpec)

/-- 'laws.FnExactDoGift', WHERE WHAT IT READS IS OF BULK AT MOST 1048576: true; the input reads as it did. -/
def fnExactDoGiftUptoRow : OpenClaim := { program := "ytndedonpeenejaa", sum := "d93f4ad9331f22b1f856a6fa97e26325da836e92a1021c39b5be5993e795ed8c", func := "loop.example/g01113/laws.FnExactDoGift", spec := "fnExactDoGift", apart := false, narrowed := true }
def FnExactDoGiftUptoSaid : Prop := fnExactDoGiftUptoRow.holds Try.pinned (OpenSpec.upto fnExactDoGiftSpec)

end Rows
end Go.Proofs.Ytndedonpeenejaa
