/-
  No cell of these rows narrows 'for every input' (looked for: loops, veiled, ifaces, maps, wideKeys, modest, calm, conditions, laid).
  DERIVED. THE GIVEN ROWS OF THIS SEAT. 9 by the template 'for every input the law returns true; each argument reads behind the call as it read before'; 0 by the template 'total and deterministic' (their statements: YtogjadakonakcaaTotals.lean).
  GIVEN WITH THE SEED: the statements are not yours to turn. If you find one false, say at which input.
  Laid BY PROGRAM, IN A SANDBOX (cutbox-rows.mjs): the forced cells as the released guide's own fill.sh prints them over the translation dce06f40188ce960… (all of the seat's roots in one cut). By AI agents, Wed Nov 11 2026. No macro, syntax, notation, axiom, sorry.
-/
import Derived.Test.YtogjadakonakcaaChecked
import GoSem.Claim
import GoSem.ClaimJoined
import GoSem.ClaimMapViews
import Derived.JoinedTies
import Derived.KernelRfl
namespace Go.Proofs.Ytogjadakonakcaa
/- THE CELL 'sum', in the pinned program and in every row, IS THE sha256 OF THE DUMP (.gsa) THAT YtogjadakonakcaaProg.lean LOADS. Nothing in Lean hashes anything: it is a label: what it is worth is what the hold of that sum in a sandbox is worth. -/
noncomputable def Try.pinned : Pinned := { name := "ytogjadakonakcaa", sum := "dce06f40188ce960d2e436b807450fa3550b1dacb580aff391e6d0b674dd57f6", checked := Try.checked }
namespace Rows
def none {H : Type} : Left H := { results := [], args := [] }

/-- 'laws.FnExactGiftTable': WHATEVER THE INPUT: true; the input reads as it did. -/
def fnExactGiftTableSpec : ChangeSpec := { name := "fnExactGiftTable", fn := fun _ => fun
  | [d1, d2, d3, d4, d5] => { results := [.lit (.bool true)], args := [d1, d2, d3, d4, d5] }
  | _ => none }
def fnExactGiftTableRow : OpenClaim := { program := "ytogjadakonakcaa", sum := "dce06f40188ce960d2e436b807450fa3550b1dacb580aff391e6d0b674dd57f6", func := "loop.example/g01113/laws.FnExactGiftTable", spec := "fnExactGiftTable", unfollowed := true, recurses := true, apart := false }
def FnExactGiftTableSaid : Prop := fnExactGiftTableRow.holds Try.pinned (OpenSpec.ofChange fnExactGiftTableSpec)

/-- ITS FALSE NEIGHBOUR: 'it returns false'. Refute it at one input. -/
def fnExactGiftTableWrong : ChangeSpec := { name := "fnExactGiftTable", fn := fun _ => fun
  | [d1, d2, d3, d4, d5] => { results := [.lit (.bool false)], args := [d1, d2, d3, d4, d5] }
  | _ => none }
def FnExactGiftTableWrongFalsely : Prop := fnExactGiftTableRow.holds Try.pinned (OpenSpec.ofChange fnExactGiftTableWrong)

/-- 'laws.FnExactPlacingTable': WHATEVER THE INPUT: true; the input reads as it did. -/
def fnExactPlacingTableSpec : ChangeSpec := { name := "fnExactPlacingTable", fn := fun _ => fun
  | [d] => { results := [.lit (.bool true)], args := [d] }
  | _ => none }
def fnExactPlacingTableRow : OpenClaim := { program := "ytogjadakonakcaa", sum := "dce06f40188ce960d2e436b807450fa3550b1dacb580aff391e6d0b674dd57f6", func := "loop.example/g01113/laws.FnExactPlacingTable", spec := "fnExactPlacingTable", unfollowed := true, recurses := true, apart := false }
def FnExactPlacingTableSaid : Prop := fnExactPlacingTableRow.holds Try.pinned (OpenSpec.ofChange fnExactPlacingTableSpec)

/-- ITS FALSE NEIGHBOUR: 'it returns false'. Refute it at one input. -/
def fnExactPlacingTableWrong : ChangeSpec := { name := "fnExactPlacingTable", fn := fun _ => fun
  | [d] => { results := [.lit (.bool false)], args := [d] }
  | _ => none }
def FnExactPlacingTableWrongFalsely : Prop := fnExactPlacingTableRow.holds Try.pinned (OpenSpec.ofChange fnExactPlacingTableWrong)

/-- 'laws.FnExactCountPlacings': WHATEVER THE INPUT: true; the input reads as it did. -/
def fnExactCountPlacingsSpec : ChangeSpec := { name := "fnExactCountPlacings", fn := fun _ => fun
  | [d] => { results := [.lit (.bool true)], args := [d] }
  | _ => none }
def fnExactCountPlacingsRow : OpenClaim := { program := "ytogjadakonakcaa", sum := "dce06f40188ce960d2e436b807450fa3550b1dacb580aff391e6d0b674dd57f6", func := "loop.example/g01113/laws.FnExactCountPlacings", spec := "fnExactCountPlacings", unfollowed := true, recurses := true, apart := false }
def FnExactCountPlacingsSaid : Prop := fnExactCountPlacingsRow.holds Try.pinned (OpenSpec.ofChange fnExactCountPlacingsSpec)

/-- ITS FALSE NEIGHBOUR: 'it returns false'. Refute it at one input. -/
def fnExactCountPlacingsWrong : ChangeSpec := { name := "fnExactCountPlacings", fn := fun _ => fun
  | [d] => { results := [.lit (.bool false)], args := [d] }
  | _ => none }
def FnExactCountPlacingsWrongFalsely : Prop := fnExactCountPlacingsRow.holds Try.pinned (OpenSpec.ofChange fnExactCountPlacingsWrong)

/-- 'laws.FnExactScaleTable': WHATEVER THE INPUT: true; the input reads as it did. -/
def fnExactScaleTableSpec : ChangeSpec := { name := "fnExactScaleTable", fn := fun _ => fun
  | [d1, d2] => { results := [.lit (.bool true)], args := [d1, d2] }
  | _ => none }
def fnExactScaleTableRow : OpenClaim := { program := "ytogjadakonakcaa", sum := "dce06f40188ce960d2e436b807450fa3550b1dacb580aff391e6d0b674dd57f6", func := "loop.example/g01113/laws.FnExactScaleTable", spec := "fnExactScaleTable", unfollowed := true, recurses := true, apart := false }
def FnExactScaleTableSaid : Prop := fnExactScaleTableRow.holds Try.pinned (OpenSpec.ofChange fnExactScaleTableSpec)

/-- ITS FALSE NEIGHBOUR: 'it returns false'. Refute it at one input. -/
def fnExactScaleTableWrong : ChangeSpec := { name := "fnExactScaleTable", fn := fun _ => fun
  | [d1, d2] => { results := [.lit (.bool false)], args := [d1, d2] }
  | _ => none }
def FnExactScaleTableWrongFalsely : Prop := fnExactScaleTableRow.holds Try.pinned (OpenSpec.ofChange fnExactScaleTableWrong)

/-- 'laws.FnExactAddTables': WHATEVER THE INPUT: true; the input reads as it did. -/
def fnExactAddTablesSpec : ChangeSpec := { name := "fnExactAddTables", fn := fun _ => fun
  | [d1, d2] => { results := [.lit (.bool true)], args := [d1, d2] }
  | _ => none }
def fnExactAddTablesRow : OpenClaim := { program := "ytogjadakonakcaa", sum := "dce06f40188ce960d2e436b807450fa3550b1dacb580aff391e6d0b674dd57f6", func := "loop.example/g01113/laws.FnExactAddTables", spec := "fnExactAddTables", unfollowed := true, recurses := true, apart := false }
def FnExactAddTablesSaid : Prop := fnExactAddTablesRow.holds Try.pinned (OpenSpec.ofChange fnExactAddTablesSpec)

/-- ITS FALSE NEIGHBOUR: 'it returns false'. Refute it at one input. -/
def fnExactAddTablesWrong : ChangeSpec := { name := "fnExactAddTables", fn := fun _ => fun
  | [d1, d2] => { results := [.lit (.bool false)], args := [d1, d2] }
  | _ => none }
def FnExactAddTablesWrongFalsely : Prop := fnExactAddTablesRow.holds Try.pinned (OpenSpec.ofChange fnExactAddTablesWrong)

/-- 'laws.FnExactMultiplyTables': WHATEVER THE INPUT: true; the input reads as it did. -/
def fnExactMultiplyTablesSpec : ChangeSpec := { name := "fnExactMultiplyTables", fn := fun _ => fun
  | [d1, d2] => { results := [.lit (.bool true)], args := [d1, d2] }
  | _ => none }
def fnExactMultiplyTablesRow : OpenClaim := { program := "ytogjadakonakcaa", sum := "dce06f40188ce960d2e436b807450fa3550b1dacb580aff391e6d0b674dd57f6", func := "loop.example/g01113/laws.FnExactMultiplyTables", spec := "fnExactMultiplyTables", unfollowed := true, recurses := true, apart := false }
def FnExactMultiplyTablesSaid : Prop := fnExactMultiplyTablesRow.holds Try.pinned (OpenSpec.ofChange fnExactMultiplyTablesSpec)

/-- ITS FALSE NEIGHBOUR: 'it returns false'. Refute it at one input. -/
def fnExactMultiplyTablesWrong : ChangeSpec := { name := "fnExactMultiplyTables", fn := fun _ => fun
  | [d1, d2] => { results := [.lit (.bool false)], args := [d1, d2] }
  | _ => none }
def FnExactMultiplyTablesWrongFalsely : Prop := fnExactMultiplyTablesRow.holds Try.pinned (OpenSpec.ofChange fnExactMultiplyTablesWrong)

/-- 'laws.FnExactFirstPlacing': WHATEVER THE INPUT: true; the input reads as it did. -/
def fnExactFirstPlacingSpec : ChangeSpec := { name := "fnExactFirstPlacing", fn := fun _ => fun
  | [d] => { results := [.lit (.bool true)], args := [d] }
  | _ => none }
def fnExactFirstPlacingRow : OpenClaim := { program := "ytogjadakonakcaa", sum := "dce06f40188ce960d2e436b807450fa3550b1dacb580aff391e6d0b674dd57f6", func := "loop.example/g01113/laws.FnExactFirstPlacing", spec := "fnExactFirstPlacing", unfollowed := true, recurses := true, apart := false }
def FnExactFirstPlacingSaid : Prop := fnExactFirstPlacingRow.holds Try.pinned (OpenSpec.ofChange fnExactFirstPlacingSpec)

/-- ITS FALSE NEIGHBOUR: 'it returns false'. Refute it at one input. -/
def fnExactFirstPlacingWrong : ChangeSpec := { name := "fnExactFirstPlacing", fn := fun _ => fun
  | [d] => { results := [.lit (.bool false)], args := [d] }
  | _ => none }
def FnExactFirstPlacingWrongFalsely : Prop := fnExactFirstPlacingRow.holds Try.pinned (OpenSpec.ofChange fnExactFirstPlacingWrong)

/-- 'laws.FnExactFromParts': WHATEVER THE INPUT: true; the input reads as it did. -/
def fnExactFromPartsSpec : ChangeSpec := { name := "fnExactFromParts", fn := fun _ => fun
  | [d1, d2] => { results := [.lit (.bool true)], args := [d1, d2] }
  | _ => none }
def fnExactFromPartsRow : OpenClaim := { program := "ytogjadakonakcaa", sum := "dce06f40188ce960d2e436b807450fa3550b1dacb580aff391e6d0b674dd57f6", func := "loop.example/g01113/laws.FnExactFromParts", spec := "fnExactFromParts", unfollowed := true, recurses := true, apart := false }
def FnExactFromPartsSaid : Prop := fnExactFromPartsRow.holds Try.pinned (OpenSpec.ofChange fnExactFromPartsSpec)

/-- ITS FALSE NEIGHBOUR: 'it returns false'. Refute it at one input. -/
def fnExactFromPartsWrong : ChangeSpec := { name := "fnExactFromParts", fn := fun _ => fun
  | [d1, d2] => { results := [.lit (.bool false)], args := [d1, d2] }
  | _ => none }
def FnExactFromPartsWrongFalsely : Prop := fnExactFromPartsRow.holds Try.pinned (OpenSpec.ofChange fnExactFromPartsWrong)

/-- 'laws.FnExactPartsOf': WHATEVER THE INPUT: true; the input reads as it did. -/
def fnExactPartsOfSpec : ChangeSpec := { name := "fnExactPartsOf", fn := fun _ => fun
  | [d] => { results := [.lit (.bool true)], args := [d] }
  | _ => none }
def fnExactPartsOfRow : OpenClaim := { program := "ytogjadakonakcaa", sum := "dce06f40188ce960d2e436b807450fa3550b1dacb580aff391e6d0b674dd57f6", func := "loop.example/g01113/laws.FnExactPartsOf", spec := "fnExactPartsOf", unfollowed := true, recurses := true, apart := false }
def FnExactPartsOfSaid : Prop := fnExactPartsOfRow.holds Try.pinned (OpenSpec.ofChange fnExactPartsOfSpec)

/-- ITS FALSE NEIGHBOUR: 'it returns false'. Refute it at one input. -/
def fnExactPartsOfWrong : ChangeSpec := { name := "fnExactPartsOf", fn := fun _ => fun
  | [d] => { results := [.lit (.bool false)], args := [d] }
  | _ => none }
def FnExactPartsOfWrongFalsely : Prop := fnExactPartsOfRow.holds Try.pinned (OpenSpec.ofChange fnExactPartsOfWrong)

/- THE SECOND FORM. 'bulk': how many values and letters a reading holds, each counted each time it is reached (what is shared counts as often as it is met; a slice's spare places count too). A statement '..UptoSaid' is the law's where the arguments, and the package variables that the reading takes, are together of bulk at most 1048576: NARROWER than '..Said'. Prove '..Said' where nothing that the law and all that it calls make is longer than what came in: it says more and counts as full. Else prove '..UptoSaid'. A law counts once. -/
mutual
def uptoBulk {H : Type} : DataW H → Nat
  | .lit (.string bytes) => bytes.length + 1
  | .lit _ => 1
  | .nil => 1
  | .ptr d => uptoBulk d + 1
  | .slice elems spare => uptoBulkAll elems + uptoBulkAll spare + 1
  | .agg parts => uptoBulkAll parts + 1
  | .iface _ d => uptoBulk d + 1
  | .map entries => uptoBulkEntries entries + 1
  | .held _ => 1
def uptoBulkAll {H : Type} : List (DataW H) → Nat
  | [] => 0
  | d :: r => uptoBulk d + uptoBulkAll r
def uptoBulkEntries {H : Type} : List (Lit × DataW H) → Nat
  | [] => 0
  | x :: r => uptoBulkEntry x + uptoBulkEntries r
def uptoBulkEntry {H : Type} : Lit × DataW H → Nat
  | (.string bytes, d) => bytes.length + uptoBulk d + 1
  | (_, d) => uptoBulk d + 1
 end
def uptoSmall : (H : Type) → List (DataW H) → Bool := fun _ ds => decide (uptoBulkAll ds ≤ 1048576)
def OpenSpec.upto (s : _root_.Go.ChangeSpec) : _root_.Go.OpenSpec := { _root_.Go.OpenSpec.ofChange s with cond := some uptoSmall }

/-- 'laws.FnExactGiftTable', WHERE WHAT IT READS IS OF BULK AT MOST 1048576: true; the input reads as it did. -/
def fnExactGiftTableUptoRow : OpenClaim := { program := "ytogjadakonakcaa", sum := "dce06f40188ce960d2e436b807450fa3550b1dacb580aff391e6d0b674dd57f6", func := "loop.example/g01113/laws.FnExactGiftTable", spec := "fnExactGiftTable", unfollowed := true, recurses := true, apart := false, narrowed := true }
def FnExactGiftTableUptoSaid : Prop := fnExactGiftTableUptoRow.holds Try.pinned (OpenSpec.upto fnExactGiftTableSpec)

/-- 'laws.FnExactPlacingTable', WHERE WHAT IT READS IS OF BULK AT MOST 1048576: true; the input reads as it did. -/
def fnExactPlacingTableUptoRow : OpenClaim := { program := "ytogjadakonakcaa", sum := "dce06f40188ce960d2e436b807450fa3550b1dacb580aff391e6d0b674dd57f6", func := "loop.example/g01113/laws.FnExactPlacingTable", spec := "fnExactPlacingTable", unfollowed := true, recurses := true, apart := false, narrowed := true }
def FnExactPlacingTableUptoSaid : Prop := fnExactPlacingTableUptoRow.holds Try.pinned (OpenSpec.upto fnExactPlacingTableSpec)

/-- 'laws.FnExactCountPlacings', WHERE WHAT IT READS IS OF BULK AT MOST 1048576: true; the input reads as it did. -/
def fnExactCountPlacingsUptoRow : OpenClaim := { program := "ytogjadakonakcaa", sum := "dce06f40188ce960d2e436b807450fa3550b1dacb580aff391e6d0b674dd57f6", func := "loop.example/g01113/laws.FnExactCountPlacings", spec := "fnExactCountPlacings", unfollowed := true, recurses := true, apart := false, narrowed := true }
def FnExactCountPlacingsUptoSaid : Prop := fnExactCountPlacingsUptoRow.holds Try.pinned (OpenSpec.upto fnExactCountPlacingsSpec)

/-- 'laws.FnExactScaleTable', WHERE WHAT IT READS IS OF BULK AT MOST 1048576: true; the input reads as it did. -/
def fnExactScaleTableUptoRow : OpenClaim := { program := "ytogjadakonakcaa", sum := "dce06f40188ce960d2e436b807450fa3550b1dacb580aff391e6d0b674dd57f6", func := "loop.example/g01113/laws.FnExactScaleTable", spec := "fnExactScaleTable", unfollowed := true, recurses := true, apart := false, narrowed := true }
def FnExactScaleTableUptoSaid : Prop := fnExactScaleTableUptoRow.holds Try.pinned (OpenSpec.upto fnExactScaleTableSpec)

/-- 'laws.FnExactAddTables', WHERE WHAT IT READS IS OF BULK AT MOST 1048576: true; the input reads as it did. -/
def fnExactAddTablesUptoRow : OpenClaim := { program := "ytogjadakonakcaa", sum := "dce06f40188ce960d2e436b807450fa3550b1dacb580aff391e6d0b674dd57f6", func := "loop.example/g01113/laws.FnExactAddTables", spec := "fnExactAddTables", unfollowed := true, recurses := true, apart := false, narrowed := true }
def FnExactAddTablesUptoSaid : Prop := fnExactAddTablesUptoRow.holds Try.pinned (OpenSpec.upto fnExactAddTablesSpec)

/-- 'laws.FnExactMultiplyTables', WHERE WHAT IT READS IS OF BULK AT MOST 1048576: true; the input reads as it did. -/
def fnExactMultiplyTablesUptoRow : OpenClaim := { program := "ytogjadakonakcaa", sum := "dce06f40188ce960d2e436b807450fa3550b1dacb580aff391e6d0b674dd57f6", func := "loop.example/g01113/laws.FnExactMultiplyTables", spec := "fnExactMultiplyTables", unfollowed := true, recurses := true, apart := false, narrowed := true }
def FnExactMultiplyTablesUptoSaid : Prop := fnExactMultiplyTablesUptoRow.holds Try.pinned (OpenSpec.upto fnExactMultiplyTablesSpec)

/-- 'laws.FnExactFirstPlacing', WHERE WHAT IT READS IS OF BULK AT MOST 1048576: true; the input reads as it did. -/
def fnExactFirstPlacingUptoRow : OpenClaim := { program := "ytogjadakonakcaa", sum := "dce06f40188ce960d2e436b807450fa3550b1dacb580aff391e6d0b674dd57f6", func := "loop.example/g01113/laws.FnExactFirstPlacing", spec := "fnExactFirstPlacing", unfollowed := true, recurses := true, apart := false, narrowed := true }
def FnExactFirstPlacingUptoSaid : Prop := fnExactFirstPlacingUptoRow.holds Try.pinned (OpenSpec.upto fnExactFirstPlacingSpec)

/-- 'laws.FnExactFromParts', WHERE WHAT IT READS IS OF BULK AT MOST 1048576: true; the input reads as it did. -/
def fnExactFromPartsUptoRow : OpenClaim := { program := "ytogjadakonakcaa", sum := "dce06f40188ce960d2e436b807450fa3550b1dacb580aff391e6d0b674dd57f6", func := "loop.example/g01113/laws.FnExactFromParts", spec := "fnExactFromParts", unfollowed := true, recurses := true, apart := false, narrowed := true }
def FnExactFromPartsUptoSaid : Prop := fnExactFromPartsUptoRow.holds Try.pinned (OpenSpec.upto fnExactFromPartsSpec)

/-- 'laws.FnExactPartsOf', WHERE WHAT IT READS IS OF BULK AT MOST 1048576: true; the input reads as it did. -/
def fnExactPartsOfUptoRow : OpenClaim := { program := "ytogjadakonakcaa", sum := "dce06f40188ce960d2e436b807450fa3550b1dacb580aff391e6d0b674dd57f6", func := "loop.example/g01113/laws.FnExactPartsOf", spec := "fnExactPartsOf", unfollowed := true, recurses := true, apart := false, narrowed := true }
def FnExactPartsOfUptoSaid : Prop := fnExactPartsOfUptoRow.holds Try.pinned (OpenSpec.upto fnExactPartsOfSpec)

end Rows
end Go.Proofs.Ytogjadakonakcaa
