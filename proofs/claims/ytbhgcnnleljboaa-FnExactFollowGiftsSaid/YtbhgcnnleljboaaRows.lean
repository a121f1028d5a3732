/-
  No cell of these rows narrows 'for every input' (looked for: loops, veiled, ifaces, maps, wideKeys, modest, calm, conditions, laid).
  DERIVED. THE GIVEN ROWS OF THIS SEAT. 3 by the template 'for every input the law returns true; each argument reads behind the call as it read before'; 0 by the template 'total and deterministic' (their statements: YtbhgcnnleljboaaTotals.lean).
  GIVEN WITH THE SEED: the statements are not yours to turn. If you find one false, say at which input.
  Laid BY PROGRAM, IN A SANDBOX (cutbox-rows.mjs): the forced cells as the released guide's own fill.sh prints them over the translation 29ea8e77d0fd84d2… (all of the seat's roots in one cut). By AI agents, Wed Nov 11 2026. No macro, syntax, notation, axiom, sorry.
-/
import Derived.Test.YtbhgcnnleljboaaChecked
import GoSem.Claim
import GoSem.ClaimJoined
import GoSem.ClaimMapViews
import Derived.JoinedTies
import Derived.KernelRfl
namespace Go.Proofs.Ytbhgcnnleljboaa
/- THE CELL 'sum', in the pinned program and in every row, IS THE sha256 OF THE DUMP (.gsa) THAT YtbhgcnnleljboaaProg.lean LOADS. Nothing in Lean hashes anything: it is a label: what it is worth is what the hold of that sum in a sandbox is worth. -/
noncomputable def Try.pinned : Pinned := { name := "ytbhgcnnleljboaa", sum := "29ea8e77d0fd84d2620ff4a507566549612b6991bbd4224ceadf09d56650b26e", checked := Try.checked }
namespace Rows
def none {H : Type} : Left H := { results := [], args := [] }

/-- 'laws.FnExactStackLists': WHATEVER THE INPUT: true; the input reads as it did. -/
def fnExactStackListsSpec : ChangeSpec := { name := "fnExactStackLists", fn := fun _ => fun
  | [d1, d2] => { results := [.lit (.bool true)], args := [d1, d2] }
  | _ => none }
def fnExactStackListsRow : OpenClaim := { program := "ytbhgcnnleljboaa", sum := "29ea8e77d0fd84d2620ff4a507566549612b6991bbd4224ceadf09d56650b26e", func := "loop.example/g01113/laws.FnExactStackLists", spec := "fnExactStackLists", apart := false }
def FnExactStackListsSaid : Prop := fnExactStackListsRow.holds Try.pinned (OpenSpec.ofChange fnExactStackListsSpec)

/-- ITS FALSE NEIGHBOUR: 'it returns false'. Refute it at one input. -/
def fnExactStackListsWrong : ChangeSpec := { name := "fnExactStackLists", fn := fun _ => fun
  | [d1, d2] => { results := [.lit (.bool false)], args := [d1, d2] }
  | _ => none }
def FnExactStackListsWrongFalsely : Prop := fnExactStackListsRow.holds Try.pinned (OpenSpec.ofChange fnExactStackListsWrong)

/-- 'laws.FnExactIsGiftPath': WHATEVER THE INPUT: true; the input reads as it did. -/
def fnExactIsGiftPathSpec : ChangeSpec := { name := "fnExactIsGiftPath", fn := fun _ => fun
  | [d1, d2, d3] => { results := [.lit (.bool true)], args := [d1, d2, d3] }
  | _ => none }
def fnExactIsGiftPathRow : OpenClaim := { program := "ytbhgcnnleljboaa", sum := "29ea8e77d0fd84d2620ff4a507566549612b6991bbd4224ceadf09d56650b26e", func := "loop.example/g01113/laws.FnExactIsGiftPath", spec := "fnExactIsGiftPath", unfollowed := true, recurses := true, apart := false }
def FnExactIsGiftPathSaid : Prop := fnExactIsGiftPathRow.holds Try.pinned (OpenSpec.ofChange fnExactIsGiftPathSpec)

/-- ITS FALSE NEIGHBOUR: 'it returns false'. Refute it at one input. -/
def fnExactIsGiftPathWrong : ChangeSpec := { name := "fnExactIsGiftPath", fn := fun _ => fun
  | [d1, d2, d3] => { results := [.lit (.bool false)], args := [d1, d2, d3] }
  | _ => none }
def FnExactIsGiftPathWrongFalsely : Prop := fnExactIsGiftPathRow.holds Try.pinned (OpenSpec.ofChange fnExactIsGiftPathWrong)

/-- 'laws.FnExactFollowGifts': WHATEVER THE INPUT: true; the input reads as it did. -/
def fnExactFollowGiftsSpec : ChangeSpec := { name := "fnExactFollowGifts", fn := fun _ => fun
  | [d1, d2] => { results := [.lit (.bool true)], args := [d1, d2] }
  | _ => none }
def fnExactFollowGiftsRow : OpenClaim := { program := "ytbhgcnnleljboaa", sum := "29ea8e77d0fd84d2620ff4a507566549612b6991bbd4224ceadf09d56650b26e", func := "loop.example/g01113/laws.FnExactFollowGifts", spec := "fnExactFollowGifts", unfollowed := true, recurses := true, apart := false }
def FnExactFollowGiftsSaid : Prop := fnExactFollowGiftsRow.holds Try.pinned (OpenSpec.ofChange fnExactFollowGiftsSpec)

/-- ITS FALSE NEIGHBOUR: 'it returns false'. Refute it at one input. -/
def fnExactFollowGiftsWrong : ChangeSpec := { name := "fnExactFollowGifts", fn := fun _ => fun
  | [d1, d2] => { results := [.lit (.bool false)], args := [d1, d2] }
  | _ => none }
def FnExactFollowGiftsWrongFalsely : Prop := fnExactFollowGiftsRow.holds Try.pinned (OpenSpec.ofChange fnExactFollowGiftsWrong)

/- THE SECOND FORM. 'bulk': how many values and letters a reading holds, each counted each time it is reached (what is shared counts as often as it is met; a slice's spare places count too). A statement '..UptoSaid' is the law's where the arguments, and the package variables that the reading takes, are together of bulk at most 1048576: NARROWER than '..Said'. Prove '..Said' where nothing that the law and all that it calls make is longer than what came in: it says more and counts as full. Else prove '..UptoSaid'. A law counts once. -/
mutual
def uptoBulk {H : Type} : DataW H → Nat
  | .lit (.string bytes) => bytes.length + 1
  | .lit _ => 1
  | .nil => 1
  | .ptr d => uptoBulk d + 1
  | .slice elems spare => uptoBulkAll elems + uptoBulkAll spare + 1
  | .agg parts => uptoBulkAll parts + 1
  | .iface _ d => uptoBulk d + 1
  | .map entries => uptoBulkEntries entries + 1
  | .held _ => 1
def uptoBulkAll {H : Type} : List (DataW H) → Nat
  | [] => 0
  | d :: r => uptoBulk d + uptoBulkAll r
def uptoBulkEntries {H : Type} : List (Lit × DataW H) → Nat
  | [] => 0
  | x :: r => uptoBulkEntry x + uptoBulkEntries r
def uptoBulkEntry {H : Type} : Lit × DataW H → Nat
  | (.string bytes, d) => bytes.length + uptoBulk d + 1
  | (_, d) => uptoBulk d + 1
 end
def uptoSmall : (H : Type) → List (DataW H) → Bool := fun _ ds => decide (uptoBulkAll ds ≤ 1048576)
def OpenSpec.upto (s : _root_.Go.ChangeSpec) : _root_.Go.OpenSpec := { _root_.Go.OpenSpec.ofChange s with cond := some uptoSmall }

/-- 'laws.FnExactStackLists', WHERE WHAT IT READS IS OF BULK AT MOST 1048576: true; the input reads as it did. -/
def fnExactStackListsUptoRow : OpenClaim := { program := "ytbhgcnnleljboaa", sum := "29ea8e77d0fd84d2620ff4a507566549612b6991bbd4224ceadf09d56650b26e", func := "loop.example/g01113/laws.FnExactStackLists", spec := "fnExactStackLists", apart := false, narrowed := true }
def FnExactStackListsUptoSaid : Prop := fnExactStackListsUptoRow.holds Try.pinned (OpenSpec.upto fnExactStackListsSpec)

/-- 'laws.FnExactIsGiftPath', WHERE WHAT IT READS IS OF BULK AT MOST 1048576: true; the input reads as it did. -/
def fnExactIsGiftPathUptoRow : OpenClaim := { program := "ytbhgcnnleljboaa", sum := "29ea8e77d0fd84d2620ff4a507566549612b6991bbd4224ceadf09d56650b26e", func := "loop.example/g01113/laws.FnExactIsGiftPath", spec := "fnExactIsGiftPath", unfollowed := true, recurses := true, apart := false, narrowed := true }
def FnExactIsGiftPathUptoSaid : Prop := fnExactIsGiftPathUptoRow.holds Try.pinned (OpenSpec.upto fnExactIsGiftPathSpec)

/-- 'laws.FnExactFollowGifts', WHERE WHAT IT READS IS OF BULK AT MOST 1048576: true; the input reads as it did. -/
def fnExactFollowGiftsUptoRow : OpenClaim := { program := "ytbhgcnnleljboaa", sum := "29ea8e77d0fd84d2620ff4a507566549612b6991bbd4224ceadf09d56650b26e", func := "loop.example/g01113/laws.FnExactFollowGifts", spec := "fnExactFollowGifts", unfollowed := true, recurses := true, apart := false, narrowed := true }
def FnExactFollowGiftsUptoSaid : Prop := fnExactFollowGiftsUptoRow.holds Try.pinned (OpenSpec.upto fnExactFollowGiftsSpec)

end Rows
end Go.Proofs.Ytbhgcnnleljboaa
