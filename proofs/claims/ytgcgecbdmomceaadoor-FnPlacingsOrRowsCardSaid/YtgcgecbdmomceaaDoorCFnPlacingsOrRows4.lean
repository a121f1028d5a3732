/- What the law FnPlacingsOrRows reaches, part 4: Lean functions with the same answers as the Go functions, the proofs that the Go code comes to these answers, and lemmas about them; no condition beyond those that each theorem names. -/
import Derived.Test.YtgcgecbdmomceaaDoorCFnPlacingsOrRowsw1
import Derived.Lib.VarintBits
import Derived.Lib.Zigzag
import Derived.Test.YtgcgecbdmomceaaDoorCFnPlacingsOrRows1
import Derived.Test.YtgcgecbdmomceaaDoorCFnPlacingsOrRows2
import Derived.Test.YtgcgecbdmomceaaDoorCFnPlacingsOrRows3
-- made by a program of this repo (wip/pp.py) through the kit's printer
namespace Go.Proofs.YtgcgecbdmomceaaDoor.A
open Go.RowKit Go.Proofs.YtgcgecbdmomceaaDoorW.PrintWords Go.Proofs.YtgcgecbdmomceaaDoorW.PrintLast Go.Proofs.YtgcgecbdmomceaaDoorW.PrintMore
attribute [local go_sem] max2_int min2_int max_two min_two max_three min_three max_four min_four
set_option linter.unusedVariables false
set_option linter.unusedSimpArgs false

/-! ### laws_FnPlacingsOrRows: function 4 -/
mutual
def laws_FnPlacingsOrRows.j0 : Nat → List Int → List (List Int) → List Int → Bool → List Int → Bool → Bool → Option (Bool)
 | 0, _, _, _, _, _, _, _ => none
 | k + 1, x1, x5, x6, x7, x10, x11, x126 => if x126 = true then (some false) else (if x7 = true then ((impl_IsPlacing.f k x6).bind fun t384 => (if t384 = true then (laws_FnPlacingsOrRows.j1 k x1 x5 x6 x10 x11 ((x6.length : Int) != (x5.length : Int))) else (laws_FnPlacingsOrRows.j1 k x1 x5 x6 x10 x11 true))) else (laws_FnPlacingsOrRows.j3 k x1 x5 x10 x11))
def laws_FnPlacingsOrRows.j3 : Nat → List Int → List (List Int) → List Int → Bool → Option (Bool)
 | 0, _, _, _, _ => none
 | k + 1, x1, x5, x10, x11 => if x11 = true then (laws_FnPlacingsOrRows.l1 k x1 x5 x10 0 (x5.length : Int) 0) else (laws_FnPlacingsOrRows.j6 k x1)
def laws_FnPlacingsOrRows.j6 : Nat → List Int → Option (Bool)
 | 0, _ => none
 | k + 1, x1 => (spec_DrawPlacingTable.f k x1).bind fun t391 => ((impl_PlacingTable.f k t391).bind fun bt394 => ((spec_PlacingTable.f k t391).bind fun bt398 => (if (bt394.2 != bt398.2) = true then (laws_FnPlacingsOrRows.j7 k t391 bt394.1 bt394.2 true) else ((laws_yRows.f k bt394.1 bt398.1).bind fun t402 => (if t402 = true then ((impl_IsPlacing.f k t391).bind fun t403 => (laws_FnPlacingsOrRows.j7 k t391 bt394.1 bt394.2 (bt394.2 != t403))) else (laws_FnPlacingsOrRows.j7 k t391 bt394.1 bt394.2 true))))))
def laws_FnPlacingsOrRows.j7 : Nat → List Int → List (List Int) → Bool → Bool → Option (Bool)
 | 0, _, _, _, _ => none
 | k + 1, x25, x26, x27, x212 => if x212 = true then (some false) else (if x27 = true then ((impl_FirstPlacing.f x26).bind fun bt404 => ((impl_CountPlacings.f x26).bind fun bt408 => ((impl_EqualSum.f k x26).bind fun bt410 => (if bt404.2 = true then ((laws_ySame.f k bt404.1 x25).bind fun t412 => (if t412 = true then (if bt408.2 = true then (if bt408.1 = 1 then (if bt410.2 = true then (some (bt410.1 == 1)) else (some false)) else (some false)) else (some false)) else (some false))) else (some false))))) else (some true))
def laws_FnPlacingsOrRows.l1 : Nat → List Int → List (List Int) → List Int → Int → Int → Int → Option (Bool)
 | 0, _, _, _, _, _, _ => none
 | k + 1, x1, x5, x10, x20, x156, x157 => if x157 < x156 then (laws_FnPlacingsOrRows.l2 k x1 x5 x10 x20 x157 false x156 x157 x10 (x10.length : Int) 0) else (if x20 ≥ (x10.length : Int) then (some false) else (laws_FnPlacingsOrRows.j6 k x1))
def laws_FnPlacingsOrRows.l2 : Nat → List Int → List (List Int) → List Int → Int → Int → Bool → Int → Int → List Int → Int → Int → Option (Bool)
 | 0, _, _, _, _, _, _, _, _, _, _, _ => none
 | k + 1, x1, x5, x10, x20, x21, x22, x156, x157, x160, x161, x162 => if x162 < x161 then (if 0 ≤ x162 then (if x162 < (x160.length : Int) then (if x22 = true then (laws_FnPlacingsOrRows.l2 k x1 x5 x10 x20 x21 true x156 x157 x160 x161 (wrap64 (x162 + 1))) else (if 0 ≤ (rd x160 x162) then (if (rd x160 x162) < (x5.length : Int) then (if 0 ≤ x21 then (if x21 < ((rd_L1 x5 (rd x160 x162)).length : Int) then (laws_FnPlacingsOrRows.l2 k x1 x5 x10 x20 x21 (decide ((rd (rd_L1 x5 (rd x160 x162)) x21) > 0)) x156 x157 x160 x161 (wrap64 (x162 + 1))) else (none)) else (none)) else (none)) else (none))) else (none)) else (none)) else (if x22 = true then (laws_FnPlacingsOrRows.l1 k x1 x5 x10 (wrap64 (x20 + 1)) x156 (wrap64 (x157 + 1))) else (laws_FnPlacingsOrRows.l1 k x1 x5 x10 x20 x156 (wrap64 (x157 + 1))))
def laws_FnPlacingsOrRows.j1 : Nat → List Int → List (List Int) → List Int → List Int → Bool → Bool → Option (Bool)
 | 0, _, _, _, _, _, _ => none
 | k + 1, x1, x5, x6, x10, x11, x137 => if x137 = true then (some false) else (laws_FnPlacingsOrRows.l0 k x1 x5 x10 x11 x6 (x6.length : Int) 0)
def laws_FnPlacingsOrRows.l0 : Nat → List Int → List (List Int) → List Int → Bool → List Int → Int → Int → Option (Bool)
 | 0, _, _, _, _, _, _, _ => none
 | k + 1, x1, x5, x10, x11, x138, x139, x140 => if x140 < x139 then (if 0 ≤ x140 then (if x140 < (x138.length : Int) then (if x140 < (x5.length : Int) then (if 0 ≤ (rd x138 x140) then (if (rd x138 x140) < ((rd_L1 x5 x140).length : Int) then (if (rd (rd_L1 x5 x140) (rd x138 x140)) < 1 then (some false) else (laws_FnPlacingsOrRows.l0 k x1 x5 x10 x11 x138 x139 (wrap64 (x140 + 1)))) else (none)) else (none)) else (none)) else (none)) else (none)) else (laws_FnPlacingsOrRows.j3 k x1 x5 x10 x11)
end
def laws_FnPlacingsOrRows.f (k : Nat) (l0 : List Int) (l1 : List Int) : Option (Bool) := (laws_big.f l0 l1).bind fun t357 => (if t357 = true then (some true) else ((spec_DrawFirstPlacing.f k l0).bind fun t358 => ((impl_FirstPlacing.f t358).bind fun bt361 => ((spec_FirstPlacing.f k t358).bind fun bt365 => ((impl_RefusingRows.f t358).bind fun bt369 => ((spec_RefusingRows.f k t358).bind fun bt373 => ((impl_CountPlacings.f t358).bind fun bt377 => ((spec_CountPlacings.f k t358).bind fun bt379 => (if (bt361.2 != bt365.2) = true then (laws_FnPlacingsOrRows.j0 k l1 t358 bt361.1 bt361.2 bt369.1 bt369.2 true) else ((laws_ySame.f k bt361.1 bt365.1).bind fun t381 => (if t381 = true then (if (bt369.2 != bt373.2) = true then (laws_FnPlacingsOrRows.j0 k l1 t358 bt361.1 bt361.2 bt369.1 bt369.2 true) else ((laws_ySame.f k bt369.1 bt373.1).bind fun t382 => (if t382 = true then (if (bt377.2 != bt379.2) = true then (laws_FnPlacingsOrRows.j0 k l1 t358 bt361.1 bt361.2 bt369.1 bt369.2 true) else (if bt377.1 = bt379.1 then ((impl_IsSquare.f t358).bind fun t383 => (if (bt377.2 != t383) = true then (laws_FnPlacingsOrRows.j0 k l1 t358 bt361.1 bt361.2 bt369.1 bt369.2 true) else (if bt361.2 = true then (if bt369.2 = true then (laws_FnPlacingsOrRows.j0 k l1 t358 bt361.1 bt361.2 bt369.1 bt369.2 true) else (if bt377.2 = true then (if (bt361.2 == bt369.2) = true then (laws_FnPlacingsOrRows.j0 k l1 t358 bt361.1 bt361.2 bt369.1 bt369.2 true) else (laws_FnPlacingsOrRows.j0 k l1 t358 bt361.1 bt361.2 bt369.1 bt369.2 (bt361.2 != (decide (bt377.1 > 0))))) else (laws_FnPlacingsOrRows.j0 k l1 t358 bt361.1 bt361.2 bt369.1 bt369.2 (bt361.2 != (decide (bt377.1 > 0)))))) else (if bt377.2 = true then (if (bt361.2 == bt369.2) = true then (laws_FnPlacingsOrRows.j0 k l1 t358 bt361.1 bt361.2 bt369.1 bt369.2 true) else (laws_FnPlacingsOrRows.j0 k l1 t358 bt361.1 bt361.2 bt369.1 bt369.2 (bt361.2 != (decide (bt377.1 > 0))))) else (laws_FnPlacingsOrRows.j0 k l1 t358 bt361.1 bt361.2 bt369.1 bt369.2 (bt361.2 != (decide (bt377.1 > 0)))))))) else (laws_FnPlacingsOrRows.j0 k l1 t358 bt361.1 bt361.2 bt369.1 bt369.2 true))) else (laws_FnPlacingsOrRows.j0 k l1 t358 bt361.1 bt361.2 bt369.1 bt369.2 true)))) else (laws_FnPlacingsOrRows.j0 k l1 t358 bt361.1 bt361.2 bt369.1 bt369.2 true))))))))))))
set_option maxHeartbeats 8000000 in
set_option maxRecDepth 100000 in
theorem laws_FnPlacingsOrRows.calls (k : Nat) (A0 : Option Addr) (c0 : Nat) (l0 : List Int) (A1 : Option Addr) (c1 : Nat) (l1 : List Int) (r : Bool) (w : World) (hr0 : Kd.C (Kd.int .u8) w A0 l0.length l0) (hc0 : l0.length ≤ c0) (hr1 : Kd.C (Kd.int .u8) w A1 l1.length l1) (hc1 : l1.length ≤ c1) (h : laws_FnPlacingsOrRows.f k l0 l1 = some r) (hT : TabZ w := by exact tabZ_below HT.out (by repeat (first | (with_reducible first | exact HB.out | apply below_alloc | apply pw_below_drewN | apply below_drew1) | exact HB.out))) :
 Calls Tryd.prog 4 #[.slice A0 l0.length c0, .slice A1 l1.length c1] w fun e w' => e = .returned (.bool r) ∧ Below w.heap.size w w' := by
 have HT := Aside0.mk hT
 clear hT
 have HR0 := Aside0.mk hr0
 have HC0 := Aside0.mk hc0
 clear hr0 hc0
 have HR1 := Aside0.mk hr1
 have HC1 := Aside0.mk hc1
 clear hr1 hc1
 have HB := Aside0.mk (Below.refl w.heap.size w)
 have H : ((laws_big.f l0 l1).bind fun t357 => (if t357 = true then (some true) else ((spec_DrawFirstPlacing.f k l0).bind fun t358 => ((impl_FirstPlacing.f t358).bind fun bt361 => ((spec_FirstPlacing.f k t358).bind fun bt365 => ((impl_RefusingRows.f t358).bind fun bt369 => ((spec_RefusingRows.f k t358).bind fun bt373 => ((impl_CountPlacings.f t358).bind fun bt377 => ((spec_CountPlacings.f k t358).bind fun bt379 => (if (bt361.2 != bt365.2) = true then (laws_FnPlacingsOrRows.j0 k l1 t358 bt361.1 bt361.2 bt369.1 bt369.2 true) else ((laws_ySame.f k bt361.1 bt365.1).bind fun t381 => (if t381 = true then (if (bt369.2 != bt373.2) = true then (laws_FnPlacingsOrRows.j0 k l1 t358 bt361.1 bt361.2 bt369.1 bt369.2 true) else ((laws_ySame.f k bt369.1 bt373.1).bind fun t382 => (if t382 = true then (if (bt377.2 != bt379.2) = true then (laws_FnPlacingsOrRows.j0 k l1 t358 bt361.1 bt361.2 bt369.1 bt369.2 true) else (if bt377.1 = bt379.1 then ((impl_IsSquare.f t358).bind fun t383 => (if (bt377.2 != t383) = true then (laws_FnPlacingsOrRows.j0 k l1 t358 bt361.1 bt361.2 bt369.1 bt369.2 true) else (if bt361.2 = true then (if bt369.2 = true then (laws_FnPlacingsOrRows.j0 k l1 t358 bt361.1 bt361.2 bt369.1 bt369.2 true) else (if bt377.2 = true then (if (bt361.2 == bt369.2) = true then (laws_FnPlacingsOrRows.j0 k l1 t358 bt361.1 bt361.2 bt369.1 bt369.2 true) else (laws_FnPlacingsOrRows.j0 k l1 t358 bt361.1 bt361.2 bt369.1 bt369.2 (bt361.2 != (decide (bt377.1 > 0))))) else (laws_FnPlacingsOrRows.j0 k l1 t358 bt361.1 bt361.2 bt369.1 bt369.2 (bt361.2 != (decide (bt377.1 > 0)))))) else (if bt377.2 = true then (if (bt361.2 == bt369.2) = true then (laws_FnPlacingsOrRows.j0 k l1 t358 bt361.1 bt361.2 bt369.1 bt369.2 true) else (laws_FnPlacingsOrRows.j0 k l1 t358 bt361.1 bt361.2 bt369.1 bt369.2 (bt361.2 != (decide (bt377.1 > 0))))) else (laws_FnPlacingsOrRows.j0 k l1 t358 bt361.1 bt361.2 bt369.1 bt369.2 (bt361.2 != (decide (bt377.1 > 0)))))))) else (laws_FnPlacingsOrRows.j0 k l1 t358 bt361.1 bt361.2 bt369.1 bt369.2 true))) else (laws_FnPlacingsOrRows.j0 k l1 t358 bt361.1 bt361.2 bt369.1 bt369.2 true)))) else (laws_FnPlacingsOrRows.j0 k l1 t358 bt361.1 bt361.2 bt369.1 bt369.2 true))))))))))))) = some r := h
 clear h
 replace H := Option.bind_eq_some_iff.mp H
 obtain ⟨t357, A30, H⟩ := H
 replace H : (if t357 = true then (some true) else ((spec_DrawFirstPlacing.f k l0).bind fun t358 => ((impl_FirstPlacing.f t358).bind fun bt361 => ((spec_FirstPlacing.f k t358).bind fun bt365 => ((impl_RefusingRows.f t358).bind fun bt369 => ((spec_RefusingRows.f k t358).bind fun bt373 => ((impl_CountPlacings.f t358).bind fun bt377 => ((spec_CountPlacings.f k t358).bind fun bt379 => (if (bt361.2 != bt365.2) = true then (laws_FnPlacingsOrRows.j0 k l1 t358 bt361.1 bt361.2 bt369.1 bt369.2 true) else ((laws_ySame.f k bt361.1 bt365.1).bind fun t381 => (if t381 = true then (if (bt369.2 != bt373.2) = true then (laws_FnPlacingsOrRows.j0 k l1 t358 bt361.1 bt361.2 bt369.1 bt369.2 true) else ((laws_ySame.f k bt369.1 bt373.1).bind fun t382 => (if t382 = true then (if (bt377.2 != bt379.2) = true then (laws_FnPlacingsOrRows.j0 k l1 t358 bt361.1 bt361.2 bt369.1 bt369.2 true) else (if bt377.1 = bt379.1 then ((impl_IsSquare.f t358).bind fun t383 => (if (bt377.2 != t383) = true then (laws_FnPlacingsOrRows.j0 k l1 t358 bt361.1 bt361.2 bt369.1 bt369.2 true) else (if bt361.2 = true then (if bt369.2 = true then (laws_FnPlacingsOrRows.j0 k l1 t358 bt361.1 bt361.2 bt369.1 bt369.2 true) else (if bt377.2 = true then (if (bt361.2 == bt369.2) = true then (laws_FnPlacingsOrRows.j0 k l1 t358 bt361.1 bt361.2 bt369.1 bt369.2 true) else (laws_FnPlacingsOrRows.j0 k l1 t358 bt361.1 bt361.2 bt369.1 bt369.2 (bt361.2 != (decide (bt377.1 > 0))))) else (laws_FnPlacingsOrRows.j0 k l1 t358 bt361.1 bt361.2 bt369.1 bt369.2 (bt361.2 != (decide (bt377.1 > 0)))))) else (if bt377.2 = true then (if (bt361.2 == bt369.2) = true then (laws_FnPlacingsOrRows.j0 k l1 t358 bt361.1 bt361.2 bt369.1 bt369.2 true) else (laws_FnPlacingsOrRows.j0 k l1 t358 bt361.1 bt361.2 bt369.1 bt369.2 (bt361.2 != (decide (bt377.1 > 0))))) else (laws_FnPlacingsOrRows.j0 k l1 t358 bt361.1 bt361.2 bt369.1 bt369.2 (bt361.2 != (decide (bt377.1 > 0)))))))) else (laws_FnPlacingsOrRows.j0 k l1 t358 bt361.1 bt361.2 bt369.1 bt369.2 true))) else (laws_FnPlacingsOrRows.j0 k l1 t358 bt361.1 bt361.2 bt369.1 bt369.2 true)))) else (laws_FnPlacingsOrRows.j0 k l1 t358 bt361.1 bt361.2 bt369.1 bt369.2 true)))))))))))) = some r := H
 have A3 := Aside0.mk A30
 clear A30
 by_cases c4 : t357 = true
 · subst c4
   have H1 : (some true) = some r := by rw [if_pos rfl] at H; exact H
   clear H
   have H := H1
   clear H1
   obtain rfl := Option.some.inj H
   go_enter Tryd.func4, Tryd.ntmps4
   go_wp2_with (first | ((with_reducible refine gate_callee (f := 14) rfl ?_); refine goesL_ (some 38) rfl rfl Tryd.func14 (by kernel_rfl) rfl #[.slice A0 l0.length c0, .slice A1 l1.length c1] rfl (by (try simp only [List.map_toArray, List.map_cons, List.map_nil]); first | done | rfl | (simp only [List.length_drop, List.length_take]; rfl)) ?_; (with_reducible refine (laws_big.calls _ _ l0 _ _ l1 true _ ?side1 ?side2 ?side3 ?side4 A3.out).mono ?_); (case side1 => repeat (first | exact HR0.out | (with_reducible refine Kd.C_alloc ?_ _) | (with_reducible refine Kd.C_drewN ?_ _) | (with_reducible refine Kd.C_drew ?_))); (case side2 => exact HC0.out); (case side3 => repeat (first | exact HR1.out | (with_reducible refine Kd.C_alloc ?_ _) | (with_reducible refine Kd.C_drewN ?_ _) | (with_reducible refine Kd.C_drew ?_))); (case side4 => exact HC1.out); rintro e w' ⟨rfl, ⟨nd, rfl⟩⟩; refine ⟨_, rfl, ?_⟩))
   go_ret
   exact ⟨by first | rfl | (simp [errW_none, errW_some] <;> rfl) | (simp [*, errW_none, errW_some] <;> rfl), by repeat (first | (with_reducible first | exact HB.out | apply below_alloc | apply pw_below_drewN | apply below_drew1) | exact HB.out)⟩
 · replace c4 := Bool.eq_false_iff.mpr c4
   subst c4
   have H1 : ((spec_DrawFirstPlacing.f k l0).bind fun t358 => ((impl_FirstPlacing.f t358).bind fun bt361 => ((spec_FirstPlacing.f k t358).bind fun bt365 => ((impl_RefusingRows.f t358).bind fun bt369 => ((spec_RefusingRows.f k t358).bind fun bt373 => ((impl_CountPlacings.f t358).bind fun bt377 => ((spec_CountPlacings.f k t358).bind fun bt379 => (if (bt361.2 != bt365.2) = true then (laws_FnPlacingsOrRows.j0 k l1 t358 bt361.1 bt361.2 bt369.1 bt369.2 true) else ((laws_ySame.f k bt361.1 bt365.1).bind fun t381 => (if t381 = true then (if (bt369.2 != bt373.2) = true then (laws_FnPlacingsOrRows.j0 k l1 t358 bt361.1 bt361.2 bt369.1 bt369.2 true) else ((laws_ySame.f k bt369.1 bt373.1).bind fun t382 => (if t382 = true then (if (bt377.2 != bt379.2) = true then (laws_FnPlacingsOrRows.j0 k l1 t358 bt361.1 bt361.2 bt369.1 bt369.2 true) else (if bt377.1 = bt379.1 then ((impl_IsSquare.f t358).bind fun t383 => (if (bt377.2 != t383) = true then (laws_FnPlacingsOrRows.j0 k l1 t358 bt361.1 bt361.2 bt369.1 bt369.2 true) else (if bt361.2 = true then (if bt369.2 = true then (laws_FnPlacingsOrRows.j0 k l1 t358 bt361.1 bt361.2 bt369.1 bt369.2 true) else (if bt377.2 = true then (if (bt361.2 == bt369.2) = true then (laws_FnPlacingsOrRows.j0 k l1 t358 bt361.1 bt361.2 bt369.1 bt369.2 true) else (laws_FnPlacingsOrRows.j0 k l1 t358 bt361.1 bt361.2 bt369.1 bt369.2 (bt361.2 != (decide (bt377.1 > 0))))) else (laws_FnPlacingsOrRows.j0 k l1 t358 bt361.1 bt361.2 bt369.1 bt369.2 (bt361.2 != (decide (bt377.1 > 0)))))) else (if bt377.2 = true then (if (bt361.2 == bt369.2) = true then (laws_FnPlacingsOrRows.j0 k l1 t358 bt361.1 bt361.2 bt369.1 bt369.2 true) else (laws_FnPlacingsOrRows.j0 k l1 t358 bt361.1 bt361.2 bt369.1 bt369.2 (bt361.2 != (decide (bt377.1 > 0))))) else (laws_FnPlacingsOrRows.j0 k l1 t358 bt361.1 bt361.2 bt369.1 bt369.2 (bt361.2 != (decide (bt377.1 > 0)))))))) else (laws_FnPlacingsOrRows.j0 k l1 t358 bt361.1 bt361.2 bt369.1 bt369.2 true))) else (laws_FnPlacingsOrRows.j0 k l1 t358 bt361.1 bt361.2 bt369.1 bt369.2 true)))) else (laws_FnPlacingsOrRows.j0 k l1 t358 bt361.1 bt361.2 bt369.1 bt369.2 true))))))))))) = some r := by rw [if_neg (show ¬ (false = true) by decide)] at H; exact H
   clear H
   have H := H1
   clear H1
   replace H := Option.bind_eq_some_iff.mp H
   obtain ⟨t358, A50, H⟩ := H
   replace H : ((impl_FirstPlacing.f t358).bind fun bt361 => ((spec_FirstPlacing.f k t358).bind fun bt365 => ((impl_RefusingRows.f t358).bind fun bt369 => ((spec_RefusingRows.f k t358).bind fun bt373 => ((impl_CountPlacings.f t358).bind fun bt377 => ((spec_CountPlacings.f k t358).bind fun bt379 => (if (bt361.2 != bt365.2) = true then (laws_FnPlacingsOrRows.j0 k l1 t358 bt361.1 bt361.2 bt369.1 bt369.2 true) else ((laws_ySame.f k bt361.1 bt365.1).bind fun t381 => (if t381 = true then (if (bt369.2 != bt373.2) = true then (laws_FnPlacingsOrRows.j0 k l1 t358 bt361.1 bt361.2 bt369.1 bt369.2 true) else ((laws_ySame.f k bt369.1 bt373.1).bind fun t382 => (if t382 = true then (if (bt377.2 != bt379.2) = true then (laws_FnPlacingsOrRows.j0 k l1 t358 bt361.1 bt361.2 bt369.1 bt369.2 true) else (if bt377.1 = bt379.1 then ((impl_IsSquare.f t358).bind fun t383 => (if (bt377.2 != t383) = true then (laws_FnPlacingsOrRows.j0 k l1 t358 bt361.1 bt361.2 bt369.1 bt369.2 true) else (if bt361.2 = true then (if bt369.2 = true then (laws_FnPlacingsOrRows.j0 k l1 t358 bt361.1 bt361.2 bt369.1 bt369.2 true) else (if bt377.2 = true then (if (bt361.2 == bt369.2) = true then (laws_FnPlacingsOrRows.j0 k l1 t358 bt361.1 bt361.2 bt369.1 bt369.2 true) else (laws_FnPlacingsOrRows.j0 k l1 t358 bt361.1 bt361.2 bt369.1 bt369.2 (bt361.2 != (decide (bt377.1 > 0))))) else (laws_FnPlacingsOrRows.j0 k l1 t358 bt361.1 bt361.2 bt369.1 bt369.2 (bt361.2 != (decide (bt377.1 > 0)))))) else (if bt377.2 = true then (if (bt361.2 == bt369.2) = true then (laws_FnPlacingsOrRows.j0 k l1 t358 bt361.1 bt361.2 bt369.1 bt369.2 true) else (laws_FnPlacingsOrRows.j0 k l1 t358 bt361.1 bt361.2 bt369.1 bt369.2 (bt361.2 != (decide (bt377.1 > 0))))) else (laws_FnPlacingsOrRows.j0 k l1 t358 bt361.1 bt361.2 bt369.1 bt369.2 (bt361.2 != (decide (bt377.1 > 0)))))))) else (laws_FnPlacingsOrRows.j0 k l1 t358 bt361.1 bt361.2 bt369.1 bt369.2 true))) else (laws_FnPlacingsOrRows.j0 k l1 t358 bt361.1 bt361.2 bt369.1 bt369.2 true)))) else (laws_FnPlacingsOrRows.j0 k l1 t358 bt361.1 bt361.2 bt369.1 bt369.2 true)))))))))) = some r := H
   have A5 := Aside0.mk A50
   clear A50
   replace H := Option.bind_eq_some_iff.mp H
   obtain ⟨⟨t361, t362⟩, A60, H⟩ := H
   replace H : ((spec_FirstPlacing.f k t358).bind fun bt365 => ((impl_RefusingRows.f t358).bind fun bt369 => ((spec_RefusingRows.f k t358).bind fun bt373 => ((impl_CountPlacings.f t358).bind fun bt377 => ((spec_CountPlacings.f k t358).bind fun bt379 => (if (t362 != bt365.2) = true then (laws_FnPlacingsOrRows.j0 k l1 t358 t361 t362 bt369.1 bt369.2 true) else ((laws_ySame.f k t361 bt365.1).bind fun t381 => (if t381 = true then (if (bt369.2 != bt373.2) = true then (laws_FnPlacingsOrRows.j0 k l1 t358 t361 t362 bt369.1 bt369.2 true) else ((laws_ySame.f k bt369.1 bt373.1).bind fun t382 => (if t382 = true then (if (bt377.2 != bt379.2) = true then (laws_FnPlacingsOrRows.j0 k l1 t358 t361 t362 bt369.1 bt369.2 true) else (if bt377.1 = bt379.1 then ((impl_IsSquare.f t358).bind fun t383 => (if (bt377.2 != t383) = true then (laws_FnPlacingsOrRows.j0 k l1 t358 t361 t362 bt369.1 bt369.2 true) else (if t362 = true then (if bt369.2 = true then (laws_FnPlacingsOrRows.j0 k l1 t358 t361 t362 bt369.1 bt369.2 true) else (if bt377.2 = true then (if (t362 == bt369.2) = true then (laws_FnPlacingsOrRows.j0 k l1 t358 t361 t362 bt369.1 bt369.2 true) else (laws_FnPlacingsOrRows.j0 k l1 t358 t361 t362 bt369.1 bt369.2 (t362 != (decide (bt377.1 > 0))))) else (laws_FnPlacingsOrRows.j0 k l1 t358 t361 t362 bt369.1 bt369.2 (t362 != (decide (bt377.1 > 0)))))) else (if bt377.2 = true then (if (t362 == bt369.2) = true then (laws_FnPlacingsOrRows.j0 k l1 t358 t361 t362 bt369.1 bt369.2 true) else (laws_FnPlacingsOrRows.j0 k l1 t358 t361 t362 bt369.1 bt369.2 (t362 != (decide (bt377.1 > 0))))) else (laws_FnPlacingsOrRows.j0 k l1 t358 t361 t362 bt369.1 bt369.2 (t362 != (decide (bt377.1 > 0)))))))) else (laws_FnPlacingsOrRows.j0 k l1 t358 t361 t362 bt369.1 bt369.2 true))) else (laws_FnPlacingsOrRows.j0 k l1 t358 t361 t362 bt369.1 bt369.2 true)))) else (laws_FnPlacingsOrRows.j0 k l1 t358 t361 t362 bt369.1 bt369.2 true))))))))) = some r := H
   have A6 := Aside0.mk A60
   clear A60
   replace H := Option.bind_eq_some_iff.mp H
   obtain ⟨⟨t365, t368⟩, A70, H⟩ := H
   replace H : ((impl_RefusingRows.f t358).bind fun bt369 => ((spec_RefusingRows.f k t358).bind fun bt373 => ((impl_CountPlacings.f t358).bind fun bt377 => ((spec_CountPlacings.f k t358).bind fun bt379 => (if (t362 != t368) = true then (laws_FnPlacingsOrRows.j0 k l1 t358 t361 t362 bt369.1 bt369.2 true) else ((laws_ySame.f k t361 t365).bind fun t381 => (if t381 = true then (if (bt369.2 != bt373.2) = true then (laws_FnPlacingsOrRows.j0 k l1 t358 t361 t362 bt369.1 bt369.2 true) else ((laws_ySame.f k bt369.1 bt373.1).bind fun t382 => (if t382 = true then (if (bt377.2 != bt379.2) = true then (laws_FnPlacingsOrRows.j0 k l1 t358 t361 t362 bt369.1 bt369.2 true) else (if bt377.1 = bt379.1 then ((impl_IsSquare.f t358).bind fun t383 => (if (bt377.2 != t383) = true then (laws_FnPlacingsOrRows.j0 k l1 t358 t361 t362 bt369.1 bt369.2 true) else (if t362 = true then (if bt369.2 = true then (laws_FnPlacingsOrRows.j0 k l1 t358 t361 t362 bt369.1 bt369.2 true) else (if bt377.2 = true then (if (t362 == bt369.2) = true then (laws_FnPlacingsOrRows.j0 k l1 t358 t361 t362 bt369.1 bt369.2 true) else (laws_FnPlacingsOrRows.j0 k l1 t358 t361 t362 bt369.1 bt369.2 (t362 != (decide (bt377.1 > 0))))) else (laws_FnPlacingsOrRows.j0 k l1 t358 t361 t362 bt369.1 bt369.2 (t362 != (decide (bt377.1 > 0)))))) else (if bt377.2 = true then (if (t362 == bt369.2) = true then (laws_FnPlacingsOrRows.j0 k l1 t358 t361 t362 bt369.1 bt369.2 true) else (laws_FnPlacingsOrRows.j0 k l1 t358 t361 t362 bt369.1 bt369.2 (t362 != (decide (bt377.1 > 0))))) else (laws_FnPlacingsOrRows.j0 k l1 t358 t361 t362 bt369.1 bt369.2 (t362 != (decide (bt377.1 > 0)))))))) else (laws_FnPlacingsOrRows.j0 k l1 t358 t361 t362 bt369.1 bt369.2 true))) else (laws_FnPlacingsOrRows.j0 k l1 t358 t361 t362 bt369.1 bt369.2 true)))) else (laws_FnPlacingsOrRows.j0 k l1 t358 t361 t362 bt369.1 bt369.2 true)))))))) = some r := H
   have A7 := Aside0.mk A70
   clear A70
   replace H := Option.bind_eq_some_iff.mp H
   obtain ⟨⟨t369, t370⟩, A80, H⟩ := H
   replace H : ((spec_RefusingRows.f k t358).bind fun bt373 => ((impl_CountPlacings.f t358).bind fun bt377 => ((spec_CountPlacings.f k t358).bind fun bt379 => (if (t362 != t368) = true then (laws_FnPlacingsOrRows.j0 k l1 t358 t361 t362 t369 t370 true) else ((laws_ySame.f k t361 t365).bind fun t381 => (if t381 = true then (if (t370 != bt373.2) = true then (laws_FnPlacingsOrRows.j0 k l1 t358 t361 t362 t369 t370 true) else ((laws_ySame.f k t369 bt373.1).bind fun t382 => (if t382 = true then (if (bt377.2 != bt379.2) = true then (laws_FnPlacingsOrRows.j0 k l1 t358 t361 t362 t369 t370 true) else (if bt377.1 = bt379.1 then ((impl_IsSquare.f t358).bind fun t383 => (if (bt377.2 != t383) = true then (laws_FnPlacingsOrRows.j0 k l1 t358 t361 t362 t369 t370 true) else (if t362 = true then (if t370 = true then (laws_FnPlacingsOrRows.j0 k l1 t358 t361 t362 t369 t370 true) else (if bt377.2 = true then (if (t362 == t370) = true then (laws_FnPlacingsOrRows.j0 k l1 t358 t361 t362 t369 t370 true) else (laws_FnPlacingsOrRows.j0 k l1 t358 t361 t362 t369 t370 (t362 != (decide (bt377.1 > 0))))) else (laws_FnPlacingsOrRows.j0 k l1 t358 t361 t362 t369 t370 (t362 != (decide (bt377.1 > 0)))))) else (if bt377.2 = true then (if (t362 == t370) = true then (laws_FnPlacingsOrRows.j0 k l1 t358 t361 t362 t369 t370 true) else (laws_FnPlacingsOrRows.j0 k l1 t358 t361 t362 t369 t370 (t362 != (decide (bt377.1 > 0))))) else (laws_FnPlacingsOrRows.j0 k l1 t358 t361 t362 t369 t370 (t362 != (decide (bt377.1 > 0)))))))) else (laws_FnPlacingsOrRows.j0 k l1 t358 t361 t362 t369 t370 true))) else (laws_FnPlacingsOrRows.j0 k l1 t358 t361 t362 t369 t370 true)))) else (laws_FnPlacingsOrRows.j0 k l1 t358 t361 t362 t369 t370 true))))))) = some r := H
   have A8 := Aside0.mk A80
   clear A80
   replace H := Option.bind_eq_some_iff.mp H
   obtain ⟨⟨t373, t374⟩, A90, H⟩ := H
   replace H : ((impl_CountPlacings.f t358).bind fun bt377 => ((spec_CountPlacings.f k t358).bind fun bt379 => (if (t362 != t368) = true then (laws_FnPlacingsOrRows.j0 k l1 t358 t361 t362 t369 t370 true) else ((laws_ySame.f k t361 t365).bind fun t381 => (if t381 = true then (if (t370 != t374) = true then (laws_FnPlacingsOrRows.j0 k l1 t358 t361 t362 t369 t370 true) else ((laws_ySame.f k t369 t373).bind fun t382 => (if t382 = true then (if (bt377.2 != bt379.2) = true then (laws_FnPlacingsOrRows.j0 k l1 t358 t361 t362 t369 t370 true) else (if bt377.1 = bt379.1 then ((impl_IsSquare.f t358).bind fun t383 => (if (bt377.2 != t383) = true then (laws_FnPlacingsOrRows.j0 k l1 t358 t361 t362 t369 t370 true) else (if t362 = true then (if t370 = true then (laws_FnPlacingsOrRows.j0 k l1 t358 t361 t362 t369 t370 true) else (if bt377.2 = true then (if (t362 == t370) = true then (laws_FnPlacingsOrRows.j0 k l1 t358 t361 t362 t369 t370 true) else (laws_FnPlacingsOrRows.j0 k l1 t358 t361 t362 t369 t370 (t362 != (decide (bt377.1 > 0))))) else (laws_FnPlacingsOrRows.j0 k l1 t358 t361 t362 t369 t370 (t362 != (decide (bt377.1 > 0)))))) else (if bt377.2 = true then (if (t362 == t370) = true then (laws_FnPlacingsOrRows.j0 k l1 t358 t361 t362 t369 t370 true) else (laws_FnPlacingsOrRows.j0 k l1 t358 t361 t362 t369 t370 (t362 != (decide (bt377.1 > 0))))) else (laws_FnPlacingsOrRows.j0 k l1 t358 t361 t362 t369 t370 (t362 != (decide (bt377.1 > 0)))))))) else (laws_FnPlacingsOrRows.j0 k l1 t358 t361 t362 t369 t370 true))) else (laws_FnPlacingsOrRows.j0 k l1 t358 t361 t362 t369 t370 true)))) else (laws_FnPlacingsOrRows.j0 k l1 t358 t361 t362 t369 t370 true)))))) = some r := H
   have A9 := Aside0.mk A90
   clear A90
   replace H := Option.bind_eq_some_iff.mp H
   obtain ⟨⟨t377, t378⟩, A100, H⟩ := H
   replace H : ((spec_CountPlacings.f k t358).bind fun bt379 => (if (t362 != t368) = true then (laws_FnPlacingsOrRows.j0 k l1 t358 t361 t362 t369 t370 true) else ((laws_ySame.f k t361 t365).bind fun t381 => (if t381 = true then (if (t370 != t374) = true then (laws_FnPlacingsOrRows.j0 k l1 t358 t361 t362 t369 t370 true) else ((laws_ySame.f k t369 t373).bind fun t382 => (if t382 = true then (if (t378 != bt379.2) = true then (laws_FnPlacingsOrRows.j0 k l1 t358 t361 t362 t369 t370 true) else (if t377 = bt379.1 then ((impl_IsSquare.f t358).bind fun t383 => (if (t378 != t383) = true then (laws_FnPlacingsOrRows.j0 k l1 t358 t361 t362 t369 t370 true) else (if t362 = true then (if t370 = true then (laws_FnPlacingsOrRows.j0 k l1 t358 t361 t362 t369 t370 true) else (if t378 = true then (if (t362 == t370) = true then (laws_FnPlacingsOrRows.j0 k l1 t358 t361 t362 t369 t370 true) else (laws_FnPlacingsOrRows.j0 k l1 t358 t361 t362 t369 t370 (t362 != (decide (t377 > 0))))) else (laws_FnPlacingsOrRows.j0 k l1 t358 t361 t362 t369 t370 (t362 != (decide (t377 > 0)))))) else (if t378 = true then (if (t362 == t370) = true then (laws_FnPlacingsOrRows.j0 k l1 t358 t361 t362 t369 t370 true) else (laws_FnPlacingsOrRows.j0 k l1 t358 t361 t362 t369 t370 (t362 != (decide (t377 > 0))))) else (laws_FnPlacingsOrRows.j0 k l1 t358 t361 t362 t369 t370 (t362 != (decide (t377 > 0)))))))) else (laws_FnPlacingsOrRows.j0 k l1 t358 t361 t362 t369 t370 true))) else (laws_FnPlacingsOrRows.j0 k l1 t358 t361 t362 t369 t370 true)))) else (laws_FnPlacingsOrRows.j0 k l1 t358 t361 t362 t369 t370 true))))) = some r := H
   have A10 := Aside0.mk A100
   clear A100
   replace H := Option.bind_eq_some_iff.mp H
   obtain ⟨⟨t379, t380⟩, A110, H⟩ := H
   replace H : (if (t362 != t368) = true then (laws_FnPlacingsOrRows.j0 k l1 t358 t361 t362 t369 t370 true) else ((laws_ySame.f k t361 t365).bind fun t381 => (if t381 = true then (if (t370 != t374) = true then (laws_FnPlacingsOrRows.j0 k l1 t358 t361 t362 t369 t370 true) else ((laws_ySame.f k t369 t373).bind fun t382 => (if t382 = true then (if (t378 != t380) = true then (laws_FnPlacingsOrRows.j0 k l1 t358 t361 t362 t369 t370 true) else (if t377 = t379 then ((impl_IsSquare.f t358).bind fun t383 => (if (t378 != t383) = true then (laws_FnPlacingsOrRows.j0 k l1 t358 t361 t362 t369 t370 true) else (if t362 = true then (if t370 = true then (laws_FnPlacingsOrRows.j0 k l1 t358 t361 t362 t369 t370 true) else (if t378 = true then (if (t362 == t370) = true then (laws_FnPlacingsOrRows.j0 k l1 t358 t361 t362 t369 t370 true) else (laws_FnPlacingsOrRows.j0 k l1 t358 t361 t362 t369 t370 (t362 != (decide (t377 > 0))))) else (laws_FnPlacingsOrRows.j0 k l1 t358 t361 t362 t369 t370 (t362 != (decide (t377 > 0)))))) else (if t378 = true then (if (t362 == t370) = true then (laws_FnPlacingsOrRows.j0 k l1 t358 t361 t362 t369 t370 true) else (laws_FnPlacingsOrRows.j0 k l1 t358 t361 t362 t369 t370 (t362 != (decide (t377 > 0))))) else (laws_FnPlacingsOrRows.j0 k l1 t358 t361 t362 t369 t370 (t362 != (decide (t377 > 0)))))))) else (laws_FnPlacingsOrRows.j0 k l1 t358 t361 t362 t369 t370 true))) else (laws_FnPlacingsOrRows.j0 k l1 t358 t361 t362 t369 t370 true)))) else (laws_FnPlacingsOrRows.j0 k l1 t358 t361 t362 t369 t370 true)))) = some r := H
   have A11 := Aside0.mk A110
   clear A110
   have HC12 := Aside0.mk H
   clear H
   go_enter Tryd.func4, Tryd.ntmps4
   go_upto_region 10 with (first | ((with_reducible refine gate_callee (f := 14) rfl ?_); refine goesL_ (some 38) rfl rfl Tryd.func14 (by kernel_rfl) rfl #[.slice A0 l0.length c0, .slice A1 l1.length c1] rfl (by (try simp only [List.map_toArray, List.map_cons, List.map_nil]); first | done | rfl | (simp only [List.length_drop, List.length_take]; rfl)) ?_; (with_reducible refine (laws_big.calls _ _ l0 _ _ l1 false _ ?side1 ?side2 ?side3 ?side4 A3.out).mono ?_); (case side1 => repeat (first | exact HR0.out | (with_reducible refine Kd.C_alloc ?_ _) | (with_reducible refine Kd.C_drewN ?_ _) | (with_reducible refine Kd.C_drew ?_))); (case side2 => exact HC0.out); (case side3 => repeat (first | exact HR1.out | (with_reducible refine Kd.C_alloc ?_ _) | (with_reducible refine Kd.C_drewN ?_ _) | (with_reducible refine Kd.C_drew ?_))); (case side4 => exact HC1.out); rintro e w' ⟨rfl, ⟨nd, rfl⟩⟩; refine ⟨_, rfl, ?_⟩) | ((with_reducible refine gate_callee (f := 15) rfl ?_); refine goesL_ (some 40) rfl rfl Tryd.func15 (by kernel_rfl) rfl #[.slice A0 l0.length c0] rfl (by (try simp only [List.map_toArray, List.map_cons, List.map_nil]); first | done | rfl | (simp only [List.length_drop, List.length_take]; rfl)) ?_; (with_reducible refine (spec_DrawFirstPlacing.calls k _ _ l0 t358 _ ?side1 ?side2 A5.out).mono ?_); (case side1 => repeat (first | exact HR0.out | (with_reducible refine Kd.C_alloc ?_ _) | (with_reducible refine Kd.C_drewN ?_ _) | (with_reducible refine Kd.C_drew ?_))); (case side2 => exact HC0.out); rintro e w13 ⟨v359, rfl, ho0, hb⟩; refine ⟨_, rfl, ?_⟩; have n0_ := Aside0.mk (Kd.V_lower (Kd.V_mono (ok' := fun k_ => True) ho0 (fun k_ hk_ => trivial)) (below_size (by repeat (first | (with_reducible first | exact HB.out | apply below_alloc | apply pw_below_drewN | apply below_drew1) | exact HB.out)))); have n1_ := Aside0.mk (below_step (by repeat (first | (with_reducible first | exact HB.out | apply below_alloc | apply pw_below_drewN | apply below_drew1) | exact HB.out)) hb); clear HB; have HO360 := n0_; have HB := n1_; clear n0_ n1_; (try clear hb); (try clear hb2); (try clear hk); (try clear hi); (try clear ho0); obtain ⟨Ao14, co14, eo14⟩ := Kd.V_slice HO360.out; subst eo14) | ((with_reducible refine gate_callee (f := 16) rfl ?_); refine goesL_ (some 43) rfl rfl Tryd.func16 (by kernel_rfl) rfl #[.slice Ao14 t358.length co14] rfl (by (try simp only [List.map_toArray, List.map_cons, List.map_nil]); first | done | rfl | (simp only [List.length_drop, List.length_take]; rfl)) ?_; (with_reducible refine (impl_FirstPlacing.calls _ _ t358 t361 t362 _ ?side1 ?side2 A6.out).mono ?_); (case side1 => repeat (first | exact (Kd.V_reads' HO360.out).2.2 | (with_reducible refine Kd.C_alloc ?_ _) | (with_reducible refine Kd.C_drewN ?_ _) | (with_reducible refine Kd.C_drew ?_))); (case side2 => exact (Kd.V_reads' HO360.out).2.1); rintro e w15 ⟨v363, rfl, ho0, hb⟩; refine ⟨_, rfl, ?_⟩; have n0_ := Aside0.mk (Kd.V_elder' (by (with_reducible repeat (first | apply Kd.V_alloc | apply Kd.V_drewN | apply Kd.V_drew)); exact HO360.out) (Kd.R_base ho0) hb); have n1_ := Aside0.mk (Kd.R_lower ho0 (below_size (by repeat (first | (with_reducible first | exact HB.out | apply below_alloc | apply pw_below_drewN | apply below_drew1) | exact HB.out)))); have n2_ := Aside0.mk (below_step (by repeat (first | (with_reducible first | exact HB.out | apply below_alloc | apply pw_below_drewN | apply below_drew1) | exact HB.out)) hb); clear HO360; clear HB; have HO360 := n0_; have HO364 := n1_; have HB := n2_; clear n0_ n1_ n2_; (try clear hb); (try clear hb2); (try clear hk); (try clear hi); (try clear ho0)) | ((with_reducible refine gate_callee (f := 17) rfl ?_); refine goesL_ (some 48) rfl rfl Tryd.func17 (by kernel_rfl) rfl #[.slice Ao14 t358.length co14] rfl (by (try simp only [List.map_toArray, List.map_cons, List.map_nil]); first | done | rfl | (simp only [List.length_drop, List.length_take]; rfl)) ?_; (with_reducible refine (spec_FirstPlacing.calls k _ _ t358 t365 t368 _ ?side1 ?side2 A7.out).mono ?_); (case side1 => repeat (first | exact (Kd.V_reads' HO360.out).2.2 | (with_reducible refine Kd.C_alloc ?_ _) | (with_reducible refine Kd.C_drewN ?_ _) | (with_reducible refine Kd.C_drew ?_))); (case side2 => exact (Kd.V_reads' HO360.out).2.1); rintro e w16 ⟨v366, rfl, ho0, hb⟩; refine ⟨_, rfl, ?_⟩; have n0_ := Aside0.mk (Kd.V_below (by (with_reducible repeat (first | apply Kd.V_alloc | apply Kd.V_drewN | apply Kd.V_drew)); exact HO360.out) hb); have n1_ := Aside0.mk (Kd.R_below (by (with_reducible repeat (first | apply Kd.R_alloc | apply Kd.R_drewN | apply Kd.R_drew)); exact HO364.out) hb); have n2_ := Aside0.mk (Kd.V_lower (Kd.V_mono (ok' := fun k_ => some k_ ≠ (v363 : Value).ownBlock) ho0 (fun k_ hk_ => (Kd.fresh' (Kd.R_lt (by (with_reducible repeat (first | apply Kd.R_alloc | apply Kd.R_drewN | apply Kd.R_drew)); exact HO364.out)) k_ hk_))) (below_size (by repeat (first | (with_reducible first | exact HB.out | apply below_alloc | apply pw_below_drewN | apply below_drew1) | exact HB.out)))); have n3_ := Aside0.mk (below_step (by repeat (first | (with_reducible first | exact HB.out | apply below_alloc | apply pw_below_drewN | apply below_drew1) | exact HB.out)) hb); clear HO360; clear HO364; clear HB; have HO360 := n0_; have HO364 := n1_; have HO367 := n2_; have HB := n3_; clear n0_ n1_ n2_ n3_; (try clear hb); (try clear hb2); (try clear hk); (try clear hi); (try clear ho0)) | ((with_reducible refine gate_callee (f := 8) rfl ?_); refine goesL_ (some 53) rfl rfl Tryd.func8 (by kernel_rfl) rfl #[.slice Ao14 t358.length co14] rfl (by (try simp only [List.map_toArray, List.map_cons, List.map_nil]); first | done | rfl | (simp only [List.length_drop, List.length_take]; rfl)) ?_; (with_reducible refine (impl_RefusingRows.calls _ _ t358 t369 t370 _ ?side1 ?side2 A8.out).mono ?_); (case side1 => repeat (first | exact (Kd.V_reads' HO360.out).2.2 | (with_reducible refine Kd.C_alloc ?_ _) | (with_reducible refine Kd.C_drewN ?_ _) | (with_reducible refine Kd.C_drew ?_))); (case side2 => exact (Kd.V_reads' HO360.out).2.1); rintro e w17 ⟨v371, rfl, ho0, hb⟩; refine ⟨_, rfl, ?_⟩; have n0_ := Aside0.mk (Kd.V_elder' (by (with_reducible repeat (first | apply Kd.V_alloc | apply Kd.V_drewN | apply Kd.V_drew)); exact HO360.out) (Kd.R_base ho0) hb); have n1_ := Aside0.mk (Kd.R_elder' (by (with_reducible repeat (first | apply Kd.R_alloc | apply Kd.R_drewN | apply Kd.R_drew)); exact HO364.out) (Kd.R_base ho0) hb); have n2_ := Aside0.mk (Kd.V_elder' (by (with_reducible repeat (first | apply Kd.V_alloc | apply Kd.V_drewN | apply Kd.V_drew)); exact HO367.out) (Kd.R_base ho0) hb); have n3_ := Aside0.mk (Kd.R_lower (Kd.R_new' ho0 (Kd.R_lt (by (with_reducible repeat (first | apply Kd.R_alloc | apply Kd.R_drewN | apply Kd.R_drew)); exact HO364.out))) (below_size (by repeat (first | (with_reducible first | exact HB.out | apply below_alloc | apply pw_below_drewN | apply below_drew1) | exact HB.out)))); have n4_ := Aside0.mk (below_step (by repeat (first | (with_reducible first | exact HB.out | apply below_alloc | apply pw_below_drewN | apply below_drew1) | exact HB.out)) hb); clear HO360; clear HO364; clear HO367; clear HB; have HO360 := n0_; have HO364 := n1_; have HO367 := n2_; have HO372 := n3_; have HB := n4_; clear n0_ n1_ n2_ n3_ n4_; (try clear hb); (try clear hb2); (try clear hk); (try clear hi); (try clear ho0)) | ((with_reducible refine gate_callee (f := 6) rfl ?_); refine goesL_ (some 58) rfl rfl Tryd.func6 (by kernel_rfl) rfl #[.slice Ao14 t358.length co14] rfl (by (try simp only [List.map_toArray, List.map_cons, List.map_nil]); first | done | rfl | (simp only [List.length_drop, List.length_take]; rfl)) ?_; (with_reducible refine (spec_RefusingRows.calls k _ _ t358 t373 t374 _ ?side1 ?side2 A9.out).mono ?_); (case side1 => repeat (first | exact (Kd.V_reads' HO360.out).2.2 | (with_reducible refine Kd.C_alloc ?_ _) | (with_reducible refine Kd.C_drewN ?_ _) | (with_reducible refine Kd.C_drew ?_))); (case side2 => exact (Kd.V_reads' HO360.out).2.1); rintro e w18 ⟨v375, rfl, ho0, hb⟩; refine ⟨_, rfl, ?_⟩; have n0_ := Aside0.mk (Kd.V_elder' (by (with_reducible repeat (first | apply Kd.V_alloc | apply Kd.V_drewN | apply Kd.V_drew)); exact HO360.out) (Kd.R_base ho0) hb); have n1_ := Aside0.mk (Kd.R_elder' (by (with_reducible repeat (first | apply Kd.R_alloc | apply Kd.R_drewN | apply Kd.R_drew)); exact HO364.out) (Kd.R_base ho0) hb); have n2_ := Aside0.mk (Kd.V_elder' (by (with_reducible repeat (first | apply Kd.V_alloc | apply Kd.V_drewN | apply Kd.V_drew)); exact HO367.out) (Kd.R_base ho0) hb); have n3_ := Aside0.mk (Kd.R_elder' (by (with_reducible repeat (first | apply Kd.R_alloc | apply Kd.R_drewN | apply Kd.R_drew)); exact HO372.out) (Kd.R_base ho0) hb); have n4_ := Aside0.mk (Kd.R_lower (Kd.R_new' (Kd.R_new' ho0 (Kd.R_lt (by (with_reducible repeat (first | apply Kd.R_alloc | apply Kd.R_drewN | apply Kd.R_drew)); exact HO364.out))) (Kd.R_lt (by (with_reducible repeat (first | apply Kd.R_alloc | apply Kd.R_drewN | apply Kd.R_drew)); exact HO372.out))) (below_size (by repeat (first | (with_reducible first | exact HB.out | apply below_alloc | apply pw_below_drewN | apply below_drew1) | exact HB.out)))); have n5_ := Aside0.mk (below_step (by repeat (first | (with_reducible first | exact HB.out | apply below_alloc | apply pw_below_drewN | apply below_drew1) | exact HB.out)) hb); clear HO360; clear HO364; clear HO367; clear HO372; clear HB; have HO360 := n0_; have HO364 := n1_; have HO367 := n2_; have HO372 := n3_; have HO376 := n4_; have HB := n5_; clear n0_ n1_ n2_ n3_ n4_ n5_; (try clear hb); (try clear hb2); (try clear hk); (try clear hi); (try clear ho0)) | ((with_reducible refine gate_callee (f := 18) rfl ?_); refine goesL_ (some 63) rfl rfl Tryd.func18 (by kernel_rfl) rfl #[.slice Ao14 t358.length co14] rfl (by (try simp only [List.map_toArray, List.map_cons, List.map_nil]); first | done | rfl | (simp only [List.length_drop, List.length_take]; rfl)) ?_; (with_reducible refine (impl_CountPlacings.calls _ _ t358 t377 t378 _ ?side1 ?side2 A10.out).mono ?_); (case side1 => repeat (first | exact (Kd.V_reads' HO360.out).2.2 | (with_reducible refine Kd.C_alloc ?_ _) | (with_reducible refine Kd.C_drewN ?_ _) | (with_reducible refine Kd.C_drew ?_))); (case side2 => exact (Kd.V_reads' HO360.out).2.1); rintro e w19 ⟨rfl, hb⟩; refine ⟨_, rfl, ?_⟩; have n0_ := Aside0.mk (Kd.V_below (by (with_reducible repeat (first | apply Kd.V_alloc | apply Kd.V_drewN | apply Kd.V_drew)); exact HO360.out) hb); have n1_ := Aside0.mk (Kd.R_below (by (with_reducible repeat (first | apply Kd.R_alloc | apply Kd.R_drewN | apply Kd.R_drew)); exact HO364.out) hb); have n2_ := Aside0.mk (Kd.V_below (by (with_reducible repeat (first | apply Kd.V_alloc | apply Kd.V_drewN | apply Kd.V_drew)); exact HO367.out) hb); have n3_ := Aside0.mk (Kd.R_below (by (with_reducible repeat (first | apply Kd.R_alloc | apply Kd.R_drewN | apply Kd.R_drew)); exact HO372.out) hb); have n4_ := Aside0.mk (Kd.R_below (by (with_reducible repeat (first | apply Kd.R_alloc | apply Kd.R_drewN | apply Kd.R_drew)); exact HO376.out) hb); have n5_ := Aside0.mk (below_step (by repeat (first | (with_reducible first | exact HB.out | apply below_alloc | apply pw_below_drewN | apply below_drew1) | exact HB.out)) hb); clear HO360; clear HO364; clear HO367; clear HO372; clear HO376; clear HB; have HO360 := n0_; have HO364 := n1_; have HO367 := n2_; have HO372 := n3_; have HO376 := n4_; have HB := n5_; clear n0_ n1_ n2_ n3_ n4_ n5_; (try clear hb); (try clear hb2); (try clear hk); (try clear hi)) | ((with_reducible refine gate_callee (f := 19) rfl ?_); refine goesL_ (some 68) rfl rfl Tryd.func19 (by kernel_rfl) rfl #[.slice Ao14 t358.length co14] rfl (by (try simp only [List.map_toArray, List.map_cons, List.map_nil]); first | done | rfl | (simp only [List.length_drop, List.length_take]; rfl)) ?_; (with_reducible refine (spec_CountPlacings.calls k _ _ t358 t379 t380 _ ?side1 ?side2 A11.out).mono ?_); (case side1 => repeat (first | exact (Kd.V_reads' HO360.out).2.2 | (with_reducible refine Kd.C_alloc ?_ _) | (with_reducible refine Kd.C_drewN ?_ _) | (with_reducible refine Kd.C_drew ?_))); (case side2 => exact (Kd.V_reads' HO360.out).2.1); rintro e w20 ⟨rfl, hb⟩; refine ⟨_, rfl, ?_⟩; have n0_ := Aside0.mk (Kd.V_below (by (with_reducible repeat (first | apply Kd.V_alloc | apply Kd.V_drewN | apply Kd.V_drew)); exact HO360.out) hb); have n1_ := Aside0.mk (Kd.R_below (by (with_reducible repeat (first | apply Kd.R_alloc | apply Kd.R_drewN | apply Kd.R_drew)); exact HO364.out) hb); have n2_ := Aside0.mk (Kd.V_below (by (with_reducible repeat (first | apply Kd.V_alloc | apply Kd.V_drewN | apply Kd.V_drew)); exact HO367.out) hb); have n3_ := Aside0.mk (Kd.R_below (by (with_reducible repeat (first | apply Kd.R_alloc | apply Kd.R_drewN | apply Kd.R_drew)); exact HO372.out) hb); have n4_ := Aside0.mk (Kd.R_below (by (with_reducible repeat (first | apply Kd.R_alloc | apply Kd.R_drewN | apply Kd.R_drew)); exact HO376.out) hb); have n5_ := Aside0.mk (below_step (by repeat (first | (with_reducible first | exact HB.out | apply below_alloc | apply pw_below_drewN | apply below_drew1) | exact HB.out)) hb); clear HO360; clear HO364; clear HO367; clear HO372; clear HO376; clear HB; have HO360 := n0_; have HO364 := n1_; have HO367 := n2_; have HO372 := n3_; have HO376 := n4_; have HB := n5_; clear n0_ n1_ n2_ n3_ n4_ n5_; (try clear hb); (try clear hb2); (try clear hk); (try clear hi)))
   (try simp only [Act.put, List.setIfInBounds_toArray, List.set_cons_zero, List.set_cons_succ])
   go_cut [126] (fun v126 wc => ∃ (kq : Nat) (x126_11 : Bool), v126 = .bool x126_11 ∧ Aside0 (laws_FnPlacingsOrRows.j0 kq l1 t358 t361 t362 t369 t370 x126_11 = some r) ∧ Aside0 (kq ≤ k) ∧ Aside0 (Kd.V (Kd.slice 3 (Kd.int .i64)) 24 wc w.heap.size (fun k_ => some k_ ≠ (v363 : Value).ownBlock ∧ some k_ ≠ (v371 : Value).ownBlock) (.slice Ao14 t358.length co14) t358) ∧ Aside0 (Kd.R (Kd.int .i64) 3 wc w.heap.size (fun k_ => some k_ ≠ (v371 : Value).ownBlock) v363 t361) ∧ Aside0 (Kd.R (Kd.int .i64) 3 wc w.heap.size (fun k_ => some k_ ≠ (v363 : Value).ownBlock) v371 t369) ∧ Aside0 (Below w.heap.size w wc))
   case first => as_aux_lemma =>
    have H := HC12.out
    clear HC12
    by_cases c21 : (t362 != t368) = true
    · rw [if_pos c21] at H
      have c21b0 : (t362 != t368) = true := c21
      (try (have c21b1 : decide (t362 = t368) = false := by simpa using c21))
      (try (have c21b2 : (t362 == t368) = false := by simpa using c21))
      (try (have c21b3 : ¬ (t362 = t368) := by simpa using c21))
      clear c21
      (first | rw [c21b0] | (simp only [i64_w, i32_w]; rw [c21b0]) | skip)
      have H' := Aside0.mk H
      clear H
      go_wp2
      go_meet
      case rel => exact ⟨_, (true), (by first | rfl | (simp; done) | (simp [*]; done)), H', ⟨by first | omega | exact Nat.le_refl _⟩, ⟨by (with_reducible repeat (first | apply Kd.V_alloc | apply Kd.V_drewN | apply Kd.V_drew)); exact Kd.V_mono HO360.out (fun _ hk => ⟨hk.1.1.2, hk.1.2⟩)⟩, ⟨by (with_reducible repeat (first | apply Kd.R_alloc | apply Kd.R_drewN | apply Kd.R_drew)); exact Kd.R_mono HO364.out (fun _ hk => hk.1.2)⟩, ⟨by (with_reducible repeat (first | apply Kd.R_alloc | apply Kd.R_drewN | apply Kd.R_drew)); exact Kd.R_mono HO372.out (fun _ hk => hk.1.2)⟩, ⟨by repeat (first | (with_reducible first | exact HB.out | apply below_alloc | apply pw_below_drewN | apply below_drew1) | exact HB.out)⟩⟩
    · rw [if_neg c21] at H
      have c21b0 : (t362 != t368) = false := by simpa using c21
      (try (have c21b1 : decide (t362 = t368) = true := by simpa using c21))
      (try (have c21b2 : (t362 == t368) = true := by simpa using c21))
      clear c21
      (first | rw [c21b0] | (simp only [i64_w, i32_w]; rw [c21b0]) | skip)
      replace H := Option.bind_eq_some_iff.mp H
      obtain ⟨t381, A220, H⟩ := H
      replace H : (if t381 = true then (if (t370 != t374) = true then (laws_FnPlacingsOrRows.j0 k l1 t358 t361 t362 t369 t370 true) else ((laws_ySame.f k t369 t373).bind fun t382 => (if t382 = true then (if (t378 != t380) = true then (laws_FnPlacingsOrRows.j0 k l1 t358 t361 t362 t369 t370 true) else (if t377 = t379 then ((impl_IsSquare.f t358).bind fun t383 => (if (t378 != t383) = true then (laws_FnPlacingsOrRows.j0 k l1 t358 t361 t362 t369 t370 true) else (if t362 = true then (if t370 = true then (laws_FnPlacingsOrRows.j0 k l1 t358 t361 t362 t369 t370 true) else (if t378 = true then (if (t362 == t370) = true then (laws_FnPlacingsOrRows.j0 k l1 t358 t361 t362 t369 t370 true) else (laws_FnPlacingsOrRows.j0 k l1 t358 t361 t362 t369 t370 (t362 != (decide (t377 > 0))))) else (laws_FnPlacingsOrRows.j0 k l1 t358 t361 t362 t369 t370 (t362 != (decide (t377 > 0)))))) else (if t378 = true then (if (t362 == t370) = true then (laws_FnPlacingsOrRows.j0 k l1 t358 t361 t362 t369 t370 true) else (laws_FnPlacingsOrRows.j0 k l1 t358 t361 t362 t369 t370 (t362 != (decide (t377 > 0))))) else (laws_FnPlacingsOrRows.j0 k l1 t358 t361 t362 t369 t370 (t362 != (decide (t377 > 0)))))))) else (laws_FnPlacingsOrRows.j0 k l1 t358 t361 t362 t369 t370 true))) else (laws_FnPlacingsOrRows.j0 k l1 t358 t361 t362 t369 t370 true)))) else (laws_FnPlacingsOrRows.j0 k l1 t358 t361 t362 t369 t370 true)) = some r := H
      have A22 := Aside0.mk A220
      clear A220
      by_cases c23 : t381 = true
      · subst c23
        have H1 : (if (t370 != t374) = true then (laws_FnPlacingsOrRows.j0 k l1 t358 t361 t362 t369 t370 true) else ((laws_ySame.f k t369 t373).bind fun t382 => (if t382 = true then (if (t378 != t380) = true then (laws_FnPlacingsOrRows.j0 k l1 t358 t361 t362 t369 t370 true) else (if t377 = t379 then ((impl_IsSquare.f t358).bind fun t383 => (if (t378 != t383) = true then (laws_FnPlacingsOrRows.j0 k l1 t358 t361 t362 t369 t370 true) else (if t362 = true then (if t370 = true then (laws_FnPlacingsOrRows.j0 k l1 t358 t361 t362 t369 t370 true) else (if t378 = true then (if (t362 == t370) = true then (laws_FnPlacingsOrRows.j0 k l1 t358 t361 t362 t369 t370 true) else (laws_FnPlacingsOrRows.j0 k l1 t358 t361 t362 t369 t370 (t362 != (decide (t377 > 0))))) else (laws_FnPlacingsOrRows.j0 k l1 t358 t361 t362 t369 t370 (t362 != (decide (t377 > 0)))))) else (if t378 = true then (if (t362 == t370) = true then (laws_FnPlacingsOrRows.j0 k l1 t358 t361 t362 t369 t370 true) else (laws_FnPlacingsOrRows.j0 k l1 t358 t361 t362 t369 t370 (t362 != (decide (t377 > 0))))) else (laws_FnPlacingsOrRows.j0 k l1 t358 t361 t362 t369 t370 (t362 != (decide (t377 > 0)))))))) else (laws_FnPlacingsOrRows.j0 k l1 t358 t361 t362 t369 t370 true))) else (laws_FnPlacingsOrRows.j0 k l1 t358 t361 t362 t369 t370 true)))) = some r := by rw [if_pos rfl] at H; exact H
        clear H
        have H := H1
        clear H1
        by_cases c24 : (t370 != t374) = true
        · rw [if_pos c24] at H
          have c24b0 : (t370 != t374) = true := c24
          (try (have c24b1 : decide (t370 = t374) = false := by simpa using c24))
          (try (have c24b2 : (t370 == t374) = false := by simpa using c24))
          (try (have c24b3 : ¬ (t370 = t374) := by simpa using c24))
          clear c24
          have H' := Aside0.mk H
          clear H
          obtain ⟨Ao25, co25, eo25⟩ := Kd.R_slice HO364.out
          subst eo25
          obtain ⟨Ao26, co26, eo26⟩ := Kd.V_slice HO367.out
          subst eo26
          go_wp2_with (first | (go_at_call 20; (with_reducible refine (laws_ySame.calls k _ _ t361 _ _ t365 true _ ?side1 ?side2 ?side3 ?side4 A22.out).mono ?_); (case side1 => repeat (first | exact (Kd.R_reads' HO364.out).2.2 | (with_reducible refine Kd.C_alloc ?_ _) | (with_reducible refine Kd.C_drewN ?_ _) | (with_reducible refine Kd.C_drew ?_))); (case side2 => exact (Kd.R_reads' HO364.out).2.1); (case side3 => repeat (first | exact (Kd.V_reads' HO367.out).2.2 | (with_reducible refine Kd.C_alloc ?_ _) | (with_reducible refine Kd.C_drewN ?_ _) | (with_reducible refine Kd.C_drew ?_))); (case side4 => exact (Kd.V_reads' HO367.out).2.1); rintro e w' ⟨rfl, ⟨nd, rfl⟩⟩))
          go_meet
          case rel => exact ⟨_, (true), (by first | rfl | (simp; done) | (simp [*]; done)), H', ⟨by first | omega | exact Nat.le_refl _⟩, ⟨by (with_reducible repeat (first | apply Kd.V_alloc | apply Kd.V_drewN | apply Kd.V_drew)); exact Kd.V_mono HO360.out (fun _ hk => ⟨hk.1.1.2, hk.1.2⟩)⟩, ⟨by (with_reducible repeat (first | apply Kd.R_alloc | apply Kd.R_drewN | apply Kd.R_drew)); exact Kd.R_mono HO364.out (fun _ hk => hk.1.2)⟩, ⟨by (with_reducible repeat (first | apply Kd.R_alloc | apply Kd.R_drewN | apply Kd.R_drew)); exact Kd.R_mono HO372.out (fun _ hk => hk.1.2)⟩, ⟨by repeat (first | (with_reducible first | exact HB.out | apply below_alloc | apply pw_below_drewN | apply below_drew1) | exact HB.out)⟩⟩
        · rw [if_neg c24] at H
          have c24b0 : (t370 != t374) = false := by simpa using c24
          (try (have c24b1 : decide (t370 = t374) = true := by simpa using c24))
          (try (have c24b2 : (t370 == t374) = true := by simpa using c24))
          clear c24
          replace H := Option.bind_eq_some_iff.mp H
          obtain ⟨t382, A270, H⟩ := H
          replace H : (if t382 = true then (if (t378 != t380) = true then (laws_FnPlacingsOrRows.j0 k l1 t358 t361 t362 t369 t370 true) else (if t377 = t379 then ((impl_IsSquare.f t358).bind fun t383 => (if (t378 != t383) = true then (laws_FnPlacingsOrRows.j0 k l1 t358 t361 t362 t369 t370 true) else (if t362 = true then (if t370 = true then (laws_FnPlacingsOrRows.j0 k l1 t358 t361 t362 t369 t370 true) else (if t378 = true then (if (t362 == t370) = true then (laws_FnPlacingsOrRows.j0 k l1 t358 t361 t362 t369 t370 true) else (laws_FnPlacingsOrRows.j0 k l1 t358 t361 t362 t369 t370 (t362 != (decide (t377 > 0))))) else (laws_FnPlacingsOrRows.j0 k l1 t358 t361 t362 t369 t370 (t362 != (decide (t377 > 0)))))) else (if t378 = true then (if (t362 == t370) = true then (laws_FnPlacingsOrRows.j0 k l1 t358 t361 t362 t369 t370 true) else (laws_FnPlacingsOrRows.j0 k l1 t358 t361 t362 t369 t370 (t362 != (decide (t377 > 0))))) else (laws_FnPlacingsOrRows.j0 k l1 t358 t361 t362 t369 t370 (t362 != (decide (t377 > 0)))))))) else (laws_FnPlacingsOrRows.j0 k l1 t358 t361 t362 t369 t370 true))) else (laws_FnPlacingsOrRows.j0 k l1 t358 t361 t362 t369 t370 true)) = some r := H
          have A27 := Aside0.mk A270
          clear A270
          by_cases c28 : t382 = true
          · subst c28
            have H1 : (if (t378 != t380) = true then (laws_FnPlacingsOrRows.j0 k l1 t358 t361 t362 t369 t370 true) else (if t377 = t379 then ((impl_IsSquare.f t358).bind fun t383 => (if (t378 != t383) = true then (laws_FnPlacingsOrRows.j0 k l1 t358 t361 t362 t369 t370 true) else (if t362 = true then (if t370 = true then (laws_FnPlacingsOrRows.j0 k l1 t358 t361 t362 t369 t370 true) else (if t378 = true then (if (t362 == t370) = true then (laws_FnPlacingsOrRows.j0 k l1 t358 t361 t362 t369 t370 true) else (laws_FnPlacingsOrRows.j0 k l1 t358 t361 t362 t369 t370 (t362 != (decide (t377 > 0))))) else (laws_FnPlacingsOrRows.j0 k l1 t358 t361 t362 t369 t370 (t362 != (decide (t377 > 0)))))) else (if t378 = true then (if (t362 == t370) = true then (laws_FnPlacingsOrRows.j0 k l1 t358 t361 t362 t369 t370 true) else (laws_FnPlacingsOrRows.j0 k l1 t358 t361 t362 t369 t370 (t362 != (decide (t377 > 0))))) else (laws_FnPlacingsOrRows.j0 k l1 t358 t361 t362 t369 t370 (t362 != (decide (t377 > 0)))))))) else (laws_FnPlacingsOrRows.j0 k l1 t358 t361 t362 t369 t370 true))) = some r := by rw [if_pos rfl] at H; exact H
            clear H
            have H := H1
            clear H1
            by_cases c29 : (t378 != t380) = true
            · rw [if_pos c29] at H
              have c29b0 : (t378 != t380) = true := c29
              (try (have c29b1 : decide (t378 = t380) = false := by simpa using c29))
              (try (have c29b2 : (t378 == t380) = false := by simpa using c29))
              (try (have c29b3 : ¬ (t378 = t380) := by simpa using c29))
              clear c29
              have H' := Aside0.mk H
              clear H
              obtain ⟨Ao30, co30, eo30⟩ := Kd.R_slice HO364.out
              subst eo30
              obtain ⟨Ao31, co31, eo31⟩ := Kd.V_slice HO367.out
              subst eo31
              go_wp2_with (first | (go_at_call 20; (with_reducible refine (laws_ySame.calls k _ _ t361 _ _ t365 true _ ?side1 ?side2 ?side3 ?side4 A22.out).mono ?_); (case side1 => repeat (first | exact (Kd.R_reads' HO364.out).2.2 | (with_reducible refine Kd.C_alloc ?_ _) | (with_reducible refine Kd.C_drewN ?_ _) | (with_reducible refine Kd.C_drew ?_))); (case side2 => exact (Kd.R_reads' HO364.out).2.1); (case side3 => repeat (first | exact (Kd.V_reads' HO367.out).2.2 | (with_reducible refine Kd.C_alloc ?_ _) | (with_reducible refine Kd.C_drewN ?_ _) | (with_reducible refine Kd.C_drew ?_))); (case side4 => exact (Kd.V_reads' HO367.out).2.1); rintro e w' ⟨rfl, ⟨nd, rfl⟩⟩; obtain ⟨Ao32, co32, eo32⟩ := Kd.R_slice HO372.out; subst eo32; obtain ⟨Ao33, co33, eo33⟩ := Kd.R_slice HO376.out; subst eo33) | (go_at_call 20; (with_reducible refine (laws_ySame.calls k _ _ t369 _ _ t373 true _ ?side1 ?side2 ?side3 ?side4 A27.out).mono ?_); (case side1 => repeat (first | exact (Kd.R_reads' HO372.out).2.2 | (with_reducible refine Kd.C_alloc ?_ _) | (with_reducible refine Kd.C_drewN ?_ _) | (with_reducible refine Kd.C_drew ?_))); (case side2 => exact (Kd.R_reads' HO372.out).2.1); (case side3 => repeat (first | exact (Kd.R_reads' HO376.out).2.2 | (with_reducible refine Kd.C_alloc ?_ _) | (with_reducible refine Kd.C_drewN ?_ _) | (with_reducible refine Kd.C_drew ?_))); (case side4 => exact (Kd.R_reads' HO376.out).2.1); rintro e w' ⟨rfl, ⟨nd, rfl⟩⟩))
              go_meet
              case rel => exact ⟨_, (true), (by first | rfl | (simp; done) | (simp [*]; done)), H', ⟨by first | omega | exact Nat.le_refl _⟩, ⟨by (with_reducible repeat (first | apply Kd.V_alloc | apply Kd.V_drewN | apply Kd.V_drew)); exact Kd.V_mono HO360.out (fun _ hk => ⟨hk.1.1.2, hk.1.2⟩)⟩, ⟨by (with_reducible repeat (first | apply Kd.R_alloc | apply Kd.R_drewN | apply Kd.R_drew)); exact Kd.R_mono HO364.out (fun _ hk => hk.1.2)⟩, ⟨by (with_reducible repeat (first | apply Kd.R_alloc | apply Kd.R_drewN | apply Kd.R_drew)); exact Kd.R_mono HO372.out (fun _ hk => hk.1.2)⟩, ⟨by repeat (first | (with_reducible first | exact HB.out | apply below_alloc | apply pw_below_drewN | apply below_drew1) | exact HB.out)⟩⟩
            · rw [if_neg c29] at H
              have c29b0 : (t378 != t380) = false := by simpa using c29
              (try (have c29b1 : decide (t378 = t380) = true := by simpa using c29))
              (try (have c29b2 : (t378 == t380) = true := by simpa using c29))
              clear c29
              by_cases c34 : t377 = t379
              · rw [if_pos c34] at H
                have c34b0 : (t377 == t379) = true := beq_iff_eq.mpr c34
                have c34b1 : (t377 != t379) = false := bne_eq_false_iff_eq.mpr c34
                clear c34
                replace H := Option.bind_eq_some_iff.mp H
                obtain ⟨t383, A350, H⟩ := H
                replace H : (if (t378 != t383) = true then (laws_FnPlacingsOrRows.j0 k l1 t358 t361 t362 t369 t370 true) else (if t362 = true then (if t370 = true then (laws_FnPlacingsOrRows.j0 k l1 t358 t361 t362 t369 t370 true) else (if t378 = true then (if (t362 == t370) = true then (laws_FnPlacingsOrRows.j0 k l1 t358 t361 t362 t369 t370 true) else (laws_FnPlacingsOrRows.j0 k l1 t358 t361 t362 t369 t370 (t362 != (decide (t377 > 0))))) else (laws_FnPlacingsOrRows.j0 k l1 t358 t361 t362 t369 t370 (t362 != (decide (t377 > 0)))))) else (if t378 = true then (if (t362 == t370) = true then (laws_FnPlacingsOrRows.j0 k l1 t358 t361 t362 t369 t370 true) else (laws_FnPlacingsOrRows.j0 k l1 t358 t361 t362 t369 t370 (t362 != (decide (t377 > 0))))) else (laws_FnPlacingsOrRows.j0 k l1 t358 t361 t362 t369 t370 (t362 != (decide (t377 > 0))))))) = some r := H
                have A35 := Aside0.mk A350
                clear A350
                by_cases c36 : (t378 != t383) = true
                · rw [if_pos c36] at H
                  have c36b0 : (t378 != t383) = true := c36
                  (try (have c36b1 : decide (t378 = t383) = false := by simpa using c36))
                  (try (have c36b2 : (t378 == t383) = false := by simpa using c36))
                  (try (have c36b3 : ¬ (t378 = t383) := by simpa using c36))
                  clear c36
                  have H' := Aside0.mk H
                  clear H
                  obtain ⟨Ao37, co37, eo37⟩ := Kd.R_slice HO364.out
                  subst eo37
                  obtain ⟨Ao38, co38, eo38⟩ := Kd.V_slice HO367.out
                  subst eo38
                  go_wp2_with (first | (go_at_call 20; (with_reducible refine (laws_ySame.calls k _ _ t361 _ _ t365 true _ ?side1 ?side2 ?side3 ?side4 A22.out).mono ?_); (case side1 => repeat (first | exact (Kd.R_reads' HO364.out).2.2 | (with_reducible refine Kd.C_alloc ?_ _) | (with_reducible refine Kd.C_drewN ?_ _) | (with_reducible refine Kd.C_drew ?_))); (case side2 => exact (Kd.R_reads' HO364.out).2.1); (case side3 => repeat (first | exact (Kd.V_reads' HO367.out).2.2 | (with_reducible refine Kd.C_alloc ?_ _) | (with_reducible refine Kd.C_drewN ?_ _) | (with_reducible refine Kd.C_drew ?_))); (case side4 => exact (Kd.V_reads' HO367.out).2.1); rintro e w' ⟨rfl, ⟨nd, rfl⟩⟩; obtain ⟨Ao39, co39, eo39⟩ := Kd.R_slice HO372.out; subst eo39; obtain ⟨Ao40, co40, eo40⟩ := Kd.R_slice HO376.out; subst eo40) | (go_at_call 20; (with_reducible refine (laws_ySame.calls k _ _ t369 _ _ t373 true _ ?side1 ?side2 ?side3 ?side4 A27.out).mono ?_); (case side1 => repeat (first | exact (Kd.R_reads' HO372.out).2.2 | (with_reducible refine Kd.C_alloc ?_ _) | (with_reducible refine Kd.C_drewN ?_ _) | (with_reducible refine Kd.C_drew ?_))); (case side2 => exact (Kd.R_reads' HO372.out).2.1); (case side3 => repeat (first | exact (Kd.R_reads' HO376.out).2.2 | (with_reducible refine Kd.C_alloc ?_ _) | (with_reducible refine Kd.C_drewN ?_ _) | (with_reducible refine Kd.C_drew ?_))); (case side4 => exact (Kd.R_reads' HO376.out).2.1); rintro e w' ⟨rfl, ⟨nd, rfl⟩⟩) | (go_at_call 21; (with_reducible refine (impl_IsSquare.calls _ _ t358 t383 _ ?side1 ?side2 A35.out).mono ?_); (case side1 => repeat (first | exact (Kd.V_reads' HO360.out).2.2 | (with_reducible refine Kd.C_alloc ?_ _) | (with_reducible refine Kd.C_drewN ?_ _) | (with_reducible refine Kd.C_drew ?_))); (case side2 => exact (Kd.V_reads' HO360.out).2.1); rintro e w41 ⟨rfl, hb⟩; have n0_ := Aside0.mk (Kd.V_below (by (with_reducible repeat (first | apply Kd.V_alloc | apply Kd.V_drewN | apply Kd.V_drew)); exact HO360.out) hb); have n1_ := Aside0.mk (Kd.R_below (by (with_reducible repeat (first | apply Kd.R_alloc | apply Kd.R_drewN | apply Kd.R_drew)); exact HO364.out) hb); have n2_ := Aside0.mk (Kd.V_below (by (with_reducible repeat (first | apply Kd.V_alloc | apply Kd.V_drewN | apply Kd.V_drew)); exact HO367.out) hb); have n3_ := Aside0.mk (Kd.R_below (by (with_reducible repeat (first | apply Kd.R_alloc | apply Kd.R_drewN | apply Kd.R_drew)); exact HO372.out) hb); have n4_ := Aside0.mk (Kd.R_below (by (with_reducible repeat (first | apply Kd.R_alloc | apply Kd.R_drewN | apply Kd.R_drew)); exact HO376.out) hb); have n5_ := Aside0.mk (below_step (by repeat (first | (with_reducible first | exact HB.out | apply below_alloc | apply pw_below_drewN | apply below_drew1) | exact HB.out)) hb); clear HO360; clear HO364; clear HO367; clear HO372; clear HO376; clear HB; have HO360 := n0_; have HO364 := n1_; have HO367 := n2_; have HO372 := n3_; have HO376 := n4_; have HB := n5_; clear n0_ n1_ n2_ n3_ n4_ n5_; (try clear hb); (try clear hb2); (try clear hk); (try clear hi)))
                  go_meet
                  case rel => exact ⟨_, (true), (by first | rfl | (simp; done) | (simp [*]; done)), H', ⟨by first | omega | exact Nat.le_refl _⟩, ⟨by (with_reducible repeat (first | apply Kd.V_alloc | apply Kd.V_drewN | apply Kd.V_drew)); exact Kd.V_mono HO360.out (fun _ hk => ⟨hk.1.1.2, hk.1.2⟩)⟩, ⟨by (with_reducible repeat (first | apply Kd.R_alloc | apply Kd.R_drewN | apply Kd.R_drew)); exact Kd.R_mono HO364.out (fun _ hk => hk.1.2)⟩, ⟨by (with_reducible repeat (first | apply Kd.R_alloc | apply Kd.R_drewN | apply Kd.R_drew)); exact Kd.R_mono HO372.out (fun _ hk => hk.1.2)⟩, ⟨by repeat (first | (with_reducible first | exact HB.out | apply below_alloc | apply pw_below_drewN | apply below_drew1) | exact HB.out)⟩⟩
                · rw [if_neg c36] at H
                  have c36b0 : (t378 != t383) = false := by simpa using c36
                  (try (have c36b1 : decide (t378 = t383) = true := by simpa using c36))
                  (try (have c36b2 : (t378 == t383) = true := by simpa using c36))
                  clear c36
                  by_cases c42 : t362 = true
                  · subst c42
                    have H1 : (if t370 = true then (laws_FnPlacingsOrRows.j0 k l1 t358 t361 true t369 t370 true) else (if t378 = true then (if (true == t370) = true then (laws_FnPlacingsOrRows.j0 k l1 t358 t361 true t369 t370 true) else (laws_FnPlacingsOrRows.j0 k l1 t358 t361 true t369 t370 (true != (decide (t377 > 0))))) else (laws_FnPlacingsOrRows.j0 k l1 t358 t361 true t369 t370 (true != (decide (t377 > 0)))))) = some r := by rw [if_pos rfl] at H; exact H
                    clear H
                    have H := H1
                    clear H1
                    by_cases c43 : t370 = true
                    · subst c43
                      have H1 : (laws_FnPlacingsOrRows.j0 k l1 t358 t361 true t369 true true) = some r := by rw [if_pos rfl] at H; exact H
                      clear H
                      have H := H1
                      clear H1
                      have H' := Aside0.mk H
                      clear H
                      obtain ⟨Ao44, co44, eo44⟩ := Kd.R_slice HO364.out
                      subst eo44
                      obtain ⟨Ao45, co45, eo45⟩ := Kd.V_slice HO367.out
                      subst eo45
                      go_wp2_with (first | (go_at_call 20; (with_reducible refine (laws_ySame.calls k _ _ t361 _ _ t365 true _ ?side1 ?side2 ?side3 ?side4 A22.out).mono ?_); (case side1 => repeat (first | exact (Kd.R_reads' HO364.out).2.2 | (with_reducible refine Kd.C_alloc ?_ _) | (with_reducible refine Kd.C_drewN ?_ _) | (with_reducible refine Kd.C_drew ?_))); (case side2 => exact (Kd.R_reads' HO364.out).2.1); (case side3 => repeat (first | exact (Kd.V_reads' HO367.out).2.2 | (with_reducible refine Kd.C_alloc ?_ _) | (with_reducible refine Kd.C_drewN ?_ _) | (with_reducible refine Kd.C_drew ?_))); (case side4 => exact (Kd.V_reads' HO367.out).2.1); rintro e w' ⟨rfl, ⟨nd, rfl⟩⟩; obtain ⟨Ao46, co46, eo46⟩ := Kd.R_slice HO372.out; subst eo46; obtain ⟨Ao47, co47, eo47⟩ := Kd.R_slice HO376.out; subst eo47) | (go_at_call 20; (with_reducible refine (laws_ySame.calls k _ _ t369 _ _ t373 true _ ?side1 ?side2 ?side3 ?side4 A27.out).mono ?_); (case side1 => repeat (first | exact (Kd.R_reads' HO372.out).2.2 | (with_reducible refine Kd.C_alloc ?_ _) | (with_reducible refine Kd.C_drewN ?_ _) | (with_reducible refine Kd.C_drew ?_))); (case side2 => exact (Kd.R_reads' HO372.out).2.1); (case side3 => repeat (first | exact (Kd.R_reads' HO376.out).2.2 | (with_reducible refine Kd.C_alloc ?_ _) | (with_reducible refine Kd.C_drewN ?_ _) | (with_reducible refine Kd.C_drew ?_))); (case side4 => exact (Kd.R_reads' HO376.out).2.1); rintro e w' ⟨rfl, ⟨nd, rfl⟩⟩) | (go_at_call 21; (with_reducible refine (impl_IsSquare.calls _ _ t358 t383 _ ?side1 ?side2 A35.out).mono ?_); (case side1 => repeat (first | exact (Kd.V_reads' HO360.out).2.2 | (with_reducible refine Kd.C_alloc ?_ _) | (with_reducible refine Kd.C_drewN ?_ _) | (with_reducible refine Kd.C_drew ?_))); (case side2 => exact (Kd.V_reads' HO360.out).2.1); rintro e w48 ⟨rfl, hb⟩; have n0_ := Aside0.mk (Kd.V_below (by (with_reducible repeat (first | apply Kd.V_alloc | apply Kd.V_drewN | apply Kd.V_drew)); exact HO360.out) hb); have n1_ := Aside0.mk (Kd.R_below (by (with_reducible repeat (first | apply Kd.R_alloc | apply Kd.R_drewN | apply Kd.R_drew)); exact HO364.out) hb); have n2_ := Aside0.mk (Kd.V_below (by (with_reducible repeat (first | apply Kd.V_alloc | apply Kd.V_drewN | apply Kd.V_drew)); exact HO367.out) hb); have n3_ := Aside0.mk (Kd.R_below (by (with_reducible repeat (first | apply Kd.R_alloc | apply Kd.R_drewN | apply Kd.R_drew)); exact HO372.out) hb); have n4_ := Aside0.mk (Kd.R_below (by (with_reducible repeat (first | apply Kd.R_alloc | apply Kd.R_drewN | apply Kd.R_drew)); exact HO376.out) hb); have n5_ := Aside0.mk (below_step (by repeat (first | (with_reducible first | exact HB.out | apply below_alloc | apply pw_below_drewN | apply below_drew1) | exact HB.out)) hb); clear HO360; clear HO364; clear HO367; clear HO372; clear HO376; clear HB; have HO360 := n0_; have HO364 := n1_; have HO367 := n2_; have HO372 := n3_; have HO376 := n4_; have HB := n5_; clear n0_ n1_ n2_ n3_ n4_ n5_; (try clear hb); (try clear hb2); (try clear hk); (try clear hi)))
                      go_meet
                      case rel => exact ⟨_, (true), (by first | rfl | (simp; done) | (simp [*]; done)), H', ⟨by first | omega | exact Nat.le_refl _⟩, ⟨by (with_reducible repeat (first | apply Kd.V_alloc | apply Kd.V_drewN | apply Kd.V_drew)); exact Kd.V_mono HO360.out (fun _ hk => ⟨hk.1.1.2, hk.1.2⟩)⟩, ⟨by (with_reducible repeat (first | apply Kd.R_alloc | apply Kd.R_drewN | apply Kd.R_drew)); exact Kd.R_mono HO364.out (fun _ hk => hk.1.2)⟩, ⟨by (with_reducible repeat (first | apply Kd.R_alloc | apply Kd.R_drewN | apply Kd.R_drew)); exact Kd.R_mono HO372.out (fun _ hk => hk.1.2)⟩, ⟨by repeat (first | (with_reducible first | exact HB.out | apply below_alloc | apply pw_below_drewN | apply below_drew1) | exact HB.out)⟩⟩
                    · replace c43 := Bool.eq_false_iff.mpr c43
                      subst c43
                      have H1 : (if t378 = true then (if (true == false) = true then (laws_FnPlacingsOrRows.j0 k l1 t358 t361 true t369 false true) else (laws_FnPlacingsOrRows.j0 k l1 t358 t361 true t369 false (true != (decide (t377 > 0))))) else (laws_FnPlacingsOrRows.j0 k l1 t358 t361 true t369 false (true != (decide (t377 > 0))))) = some r := by rw [if_neg (show ¬ (false = true) by decide)] at H; exact H
                      clear H
                      have H := H1
                      clear H1
                      by_cases c49 : t378 = true
                      · subst c49
                        have H1 : (if (true == false) = true then (laws_FnPlacingsOrRows.j0 k l1 t358 t361 true t369 false true) else (laws_FnPlacingsOrRows.j0 k l1 t358 t361 true t369 false (true != (decide (t377 > 0))))) = some r := by rw [if_pos rfl] at H; exact H
                        clear H
                        have H := H1
                        clear H1
                        by_cases c50 : (true == false) = true
                        · rw [if_pos c50] at H
                          have c50b0 : (true == false) = true := c50
                          (try (have c50b1 : decide (true = false) = true := by first | rfl | decide | exact absurd c50 (by decide)))
                          (try (have c50b2 : (true == false) = true := by first | rfl | decide | exact absurd c50 (by decide)))
                          clear c50
                          have H' := Aside0.mk H
                          clear H
                          obtain ⟨Ao51, co51, eo51⟩ := Kd.R_slice HO364.out
                          subst eo51
                          obtain ⟨Ao52, co52, eo52⟩ := Kd.V_slice HO367.out
                          subst eo52
                          go_wp2_with (first | (go_at_call 20; (with_reducible refine (laws_ySame.calls k _ _ t361 _ _ t365 true _ ?side1 ?side2 ?side3 ?side4 A22.out).mono ?_); (case side1 => repeat (first | exact (Kd.R_reads' HO364.out).2.2 | (with_reducible refine Kd.C_alloc ?_ _) | (with_reducible refine Kd.C_drewN ?_ _) | (with_reducible refine Kd.C_drew ?_))); (case side2 => exact (Kd.R_reads' HO364.out).2.1); (case side3 => repeat (first | exact (Kd.V_reads' HO367.out).2.2 | (with_reducible refine Kd.C_alloc ?_ _) | (with_reducible refine Kd.C_drewN ?_ _) | (with_reducible refine Kd.C_drew ?_))); (case side4 => exact (Kd.V_reads' HO367.out).2.1); rintro e w' ⟨rfl, ⟨nd, rfl⟩⟩; obtain ⟨Ao53, co53, eo53⟩ := Kd.R_slice HO372.out; subst eo53; obtain ⟨Ao54, co54, eo54⟩ := Kd.R_slice HO376.out; subst eo54) | (go_at_call 20; (with_reducible refine (laws_ySame.calls k _ _ t369 _ _ t373 true _ ?side1 ?side2 ?side3 ?side4 A27.out).mono ?_); (case side1 => repeat (first | exact (Kd.R_reads' HO372.out).2.2 | (with_reducible refine Kd.C_alloc ?_ _) | (with_reducible refine Kd.C_drewN ?_ _) | (with_reducible refine Kd.C_drew ?_))); (case side2 => exact (Kd.R_reads' HO372.out).2.1); (case side3 => repeat (first | exact (Kd.R_reads' HO376.out).2.2 | (with_reducible refine Kd.C_alloc ?_ _) | (with_reducible refine Kd.C_drewN ?_ _) | (with_reducible refine Kd.C_drew ?_))); (case side4 => exact (Kd.R_reads' HO376.out).2.1); rintro e w' ⟨rfl, ⟨nd, rfl⟩⟩) | (go_at_call 21; (with_reducible refine (impl_IsSquare.calls _ _ t358 t383 _ ?side1 ?side2 A35.out).mono ?_); (case side1 => repeat (first | exact (Kd.V_reads' HO360.out).2.2 | (with_reducible refine Kd.C_alloc ?_ _) | (with_reducible refine Kd.C_drewN ?_ _) | (with_reducible refine Kd.C_drew ?_))); (case side2 => exact (Kd.V_reads' HO360.out).2.1); rintro e w55 ⟨rfl, hb⟩; have n0_ := Aside0.mk (Kd.V_below (by (with_reducible repeat (first | apply Kd.V_alloc | apply Kd.V_drewN | apply Kd.V_drew)); exact HO360.out) hb); have n1_ := Aside0.mk (Kd.R_below (by (with_reducible repeat (first | apply Kd.R_alloc | apply Kd.R_drewN | apply Kd.R_drew)); exact HO364.out) hb); have n2_ := Aside0.mk (Kd.V_below (by (with_reducible repeat (first | apply Kd.V_alloc | apply Kd.V_drewN | apply Kd.V_drew)); exact HO367.out) hb); have n3_ := Aside0.mk (Kd.R_below (by (with_reducible repeat (first | apply Kd.R_alloc | apply Kd.R_drewN | apply Kd.R_drew)); exact HO372.out) hb); have n4_ := Aside0.mk (Kd.R_below (by (with_reducible repeat (first | apply Kd.R_alloc | apply Kd.R_drewN | apply Kd.R_drew)); exact HO376.out) hb); have n5_ := Aside0.mk (below_step (by repeat (first | (with_reducible first | exact HB.out | apply below_alloc | apply pw_below_drewN | apply below_drew1) | exact HB.out)) hb); clear HO360; clear HO364; clear HO367; clear HO372; clear HO376; clear HB; have HO360 := n0_; have HO364 := n1_; have HO367 := n2_; have HO372 := n3_; have HO376 := n4_; have HB := n5_; clear n0_ n1_ n2_ n3_ n4_ n5_; (try clear hb); (try clear hb2); (try clear hk); (try clear hi)))
                          go_meet
                          case rel => exact ⟨_, (true), (by first | rfl | (simp; done) | (simp [*]; done)), H', ⟨by first | omega | exact Nat.le_refl _⟩, ⟨by (with_reducible repeat (first | apply Kd.V_alloc | apply Kd.V_drewN | apply Kd.V_drew)); exact Kd.V_mono HO360.out (fun _ hk => ⟨hk.1.1.2, hk.1.2⟩)⟩, ⟨by (with_reducible repeat (first | apply Kd.R_alloc | apply Kd.R_drewN | apply Kd.R_drew)); exact Kd.R_mono HO364.out (fun _ hk => hk.1.2)⟩, ⟨by (with_reducible repeat (first | apply Kd.R_alloc | apply Kd.R_drewN | apply Kd.R_drew)); exact Kd.R_mono HO372.out (fun _ hk => hk.1.2)⟩, ⟨by repeat (first | (with_reducible first | exact HB.out | apply below_alloc | apply pw_below_drewN | apply below_drew1) | exact HB.out)⟩⟩
                        · rw [if_neg c50] at H
                          have c50b0 : (true == false) = false := by first | rfl | decide | exact absurd c50 (by decide)
                          (try (have c50b1 : decide (true = false) = false := by first | rfl | decide | exact absurd c50 (by decide)))
                          (try (have c50b2 : (true == false) = false := by first | rfl | decide | exact absurd c50 (by decide)))
                          (try (have c50b3 : ¬ (true = false) := by first | rfl | decide | exact absurd c50 (by decide)))
                          clear c50
                          have H' := Aside0.mk H
                          clear H
                          obtain ⟨Ao56, co56, eo56⟩ := Kd.R_slice HO364.out
                          subst eo56
                          obtain ⟨Ao57, co57, eo57⟩ := Kd.V_slice HO367.out
                          subst eo57
                          go_wp2_with (first | (go_at_call 20; (with_reducible refine (laws_ySame.calls k _ _ t361 _ _ t365 true _ ?side1 ?side2 ?side3 ?side4 A22.out).mono ?_); (case side1 => repeat (first | exact (Kd.R_reads' HO364.out).2.2 | (with_reducible refine Kd.C_alloc ?_ _) | (with_reducible refine Kd.C_drewN ?_ _) | (with_reducible refine Kd.C_drew ?_))); (case side2 => exact (Kd.R_reads' HO364.out).2.1); (case side3 => repeat (first | exact (Kd.V_reads' HO367.out).2.2 | (with_reducible refine Kd.C_alloc ?_ _) | (with_reducible refine Kd.C_drewN ?_ _) | (with_reducible refine Kd.C_drew ?_))); (case side4 => exact (Kd.V_reads' HO367.out).2.1); rintro e w' ⟨rfl, ⟨nd, rfl⟩⟩; obtain ⟨Ao58, co58, eo58⟩ := Kd.R_slice HO372.out; subst eo58; obtain ⟨Ao59, co59, eo59⟩ := Kd.R_slice HO376.out; subst eo59) | (go_at_call 20; (with_reducible refine (laws_ySame.calls k _ _ t369 _ _ t373 true _ ?side1 ?side2 ?side3 ?side4 A27.out).mono ?_); (case side1 => repeat (first | exact (Kd.R_reads' HO372.out).2.2 | (with_reducible refine Kd.C_alloc ?_ _) | (with_reducible refine Kd.C_drewN ?_ _) | (with_reducible refine Kd.C_drew ?_))); (case side2 => exact (Kd.R_reads' HO372.out).2.1); (case side3 => repeat (first | exact (Kd.R_reads' HO376.out).2.2 | (with_reducible refine Kd.C_alloc ?_ _) | (with_reducible refine Kd.C_drewN ?_ _) | (with_reducible refine Kd.C_drew ?_))); (case side4 => exact (Kd.R_reads' HO376.out).2.1); rintro e w' ⟨rfl, ⟨nd, rfl⟩⟩) | (go_at_call 21; (with_reducible refine (impl_IsSquare.calls _ _ t358 t383 _ ?side1 ?side2 A35.out).mono ?_); (case side1 => repeat (first | exact (Kd.V_reads' HO360.out).2.2 | (with_reducible refine Kd.C_alloc ?_ _) | (with_reducible refine Kd.C_drewN ?_ _) | (with_reducible refine Kd.C_drew ?_))); (case side2 => exact (Kd.V_reads' HO360.out).2.1); rintro e w60 ⟨rfl, hb⟩; have n0_ := Aside0.mk (Kd.V_below (by (with_reducible repeat (first | apply Kd.V_alloc | apply Kd.V_drewN | apply Kd.V_drew)); exact HO360.out) hb); have n1_ := Aside0.mk (Kd.R_below (by (with_reducible repeat (first | apply Kd.R_alloc | apply Kd.R_drewN | apply Kd.R_drew)); exact HO364.out) hb); have n2_ := Aside0.mk (Kd.V_below (by (with_reducible repeat (first | apply Kd.V_alloc | apply Kd.V_drewN | apply Kd.V_drew)); exact HO367.out) hb); have n3_ := Aside0.mk (Kd.R_below (by (with_reducible repeat (first | apply Kd.R_alloc | apply Kd.R_drewN | apply Kd.R_drew)); exact HO372.out) hb); have n4_ := Aside0.mk (Kd.R_below (by (with_reducible repeat (first | apply Kd.R_alloc | apply Kd.R_drewN | apply Kd.R_drew)); exact HO376.out) hb); have n5_ := Aside0.mk (below_step (by repeat (first | (with_reducible first | exact HB.out | apply below_alloc | apply pw_below_drewN | apply below_drew1) | exact HB.out)) hb); clear HO360; clear HO364; clear HO367; clear HO372; clear HO376; clear HB; have HO360 := n0_; have HO364 := n1_; have HO367 := n2_; have HO372 := n3_; have HO376 := n4_; have HB := n5_; clear n0_ n1_ n2_ n3_ n4_ n5_; (try clear hb); (try clear hb2); (try clear hk); (try clear hi)))
                          go_meet
                          case rel => exact ⟨_, ((true != (decide (t377 > 0)))), (by first | rfl | (simp; done) | (simp [*]; done)), H', ⟨by first | omega | exact Nat.le_refl _⟩, ⟨by (with_reducible repeat (first | apply Kd.V_alloc | apply Kd.V_drewN | apply Kd.V_drew)); exact Kd.V_mono HO360.out (fun _ hk => ⟨hk.1.1.2, hk.1.2⟩)⟩, ⟨by (with_reducible repeat (first | apply Kd.R_alloc | apply Kd.R_drewN | apply Kd.R_drew)); exact Kd.R_mono HO364.out (fun _ hk => hk.1.2)⟩, ⟨by (with_reducible repeat (first | apply Kd.R_alloc | apply Kd.R_drewN | apply Kd.R_drew)); exact Kd.R_mono HO372.out (fun _ hk => hk.1.2)⟩, ⟨by repeat (first | (with_reducible first | exact HB.out | apply below_alloc | apply pw_below_drewN | apply below_drew1) | exact HB.out)⟩⟩
                      · replace c49 := Bool.eq_false_iff.mpr c49
                        subst c49
                        have H1 : (laws_FnPlacingsOrRows.j0 k l1 t358 t361 true t369 false (true != (decide (t377 > 0)))) = some r := by rw [if_neg (show ¬ (false = true) by decide)] at H; exact H
                        clear H
                        have H := H1
                        clear H1
                        have H' := Aside0.mk H
                        clear H
                        obtain ⟨Ao61, co61, eo61⟩ := Kd.R_slice HO364.out
                        subst eo61
                        obtain ⟨Ao62, co62, eo62⟩ := Kd.V_slice HO367.out
                        subst eo62
                        go_wp2_with (first | (go_at_call 20; (with_reducible refine (laws_ySame.calls k _ _ t361 _ _ t365 true _ ?side1 ?side2 ?side3 ?side4 A22.out).mono ?_); (case side1 => repeat (first | exact (Kd.R_reads' HO364.out).2.2 | (with_reducible refine Kd.C_alloc ?_ _) | (with_reducible refine Kd.C_drewN ?_ _) | (with_reducible refine Kd.C_drew ?_))); (case side2 => exact (Kd.R_reads' HO364.out).2.1); (case side3 => repeat (first | exact (Kd.V_reads' HO367.out).2.2 | (with_reducible refine Kd.C_alloc ?_ _) | (with_reducible refine Kd.C_drewN ?_ _) | (with_reducible refine Kd.C_drew ?_))); (case side4 => exact (Kd.V_reads' HO367.out).2.1); rintro e w' ⟨rfl, ⟨nd, rfl⟩⟩; obtain ⟨Ao63, co63, eo63⟩ := Kd.R_slice HO372.out; subst eo63; obtain ⟨Ao64, co64, eo64⟩ := Kd.R_slice HO376.out; subst eo64) | (go_at_call 20; (with_reducible refine (laws_ySame.calls k _ _ t369 _ _ t373 true _ ?side1 ?side2 ?side3 ?side4 A27.out).mono ?_); (case side1 => repeat (first | exact (Kd.R_reads' HO372.out).2.2 | (with_reducible refine Kd.C_alloc ?_ _) | (with_reducible refine Kd.C_drewN ?_ _) | (with_reducible refine Kd.C_drew ?_))); (case side2 => exact (Kd.R_reads' HO372.out).2.1); (case side3 => repeat (first | exact (Kd.R_reads' HO376.out).2.2 | (with_reducible refine Kd.C_alloc ?_ _) | (with_reducible refine Kd.C_drewN ?_ _) | (with_reducible refine Kd.C_drew ?_))); (case side4 => exact (Kd.R_reads' HO376.out).2.1); rintro e w' ⟨rfl, ⟨nd, rfl⟩⟩) | (go_at_call 21; (with_reducible refine (impl_IsSquare.calls _ _ t358 t383 _ ?side1 ?side2 A35.out).mono ?_); (case side1 => repeat (first | exact (Kd.V_reads' HO360.out).2.2 | (with_reducible refine Kd.C_alloc ?_ _) | (with_reducible refine Kd.C_drewN ?_ _) | (with_reducible refine Kd.C_drew ?_))); (case side2 => exact (Kd.V_reads' HO360.out).2.1); rintro e w65 ⟨rfl, hb⟩; have n0_ := Aside0.mk (Kd.V_below (by (with_reducible repeat (first | apply Kd.V_alloc | apply Kd.V_drewN | apply Kd.V_drew)); exact HO360.out) hb); have n1_ := Aside0.mk (Kd.R_below (by (with_reducible repeat (first | apply Kd.R_alloc | apply Kd.R_drewN | apply Kd.R_drew)); exact HO364.out) hb); have n2_ := Aside0.mk (Kd.V_below (by (with_reducible repeat (first | apply Kd.V_alloc | apply Kd.V_drewN | apply Kd.V_drew)); exact HO367.out) hb); have n3_ := Aside0.mk (Kd.R_below (by (with_reducible repeat (first | apply Kd.R_alloc | apply Kd.R_drewN | apply Kd.R_drew)); exact HO372.out) hb); have n4_ := Aside0.mk (Kd.R_below (by (with_reducible repeat (first | apply Kd.R_alloc | apply Kd.R_drewN | apply Kd.R_drew)); exact HO376.out) hb); have n5_ := Aside0.mk (below_step (by repeat (first | (with_reducible first | exact HB.out | apply below_alloc | apply pw_below_drewN | apply below_drew1) | exact HB.out)) hb); clear HO360; clear HO364; clear HO367; clear HO372; clear HO376; clear HB; have HO360 := n0_; have HO364 := n1_; have HO367 := n2_; have HO372 := n3_; have HO376 := n4_; have HB := n5_; clear n0_ n1_ n2_ n3_ n4_ n5_; (try clear hb); (try clear hb2); (try clear hk); (try clear hi)))
                        go_meet
                        case rel => exact ⟨_, ((true != (decide (t377 > 0)))), (by first | rfl | (simp; done) | (simp [*]; done)), H', ⟨by first | omega | exact Nat.le_refl _⟩, ⟨by (with_reducible repeat (first | apply Kd.V_alloc | apply Kd.V_drewN | apply Kd.V_drew)); exact Kd.V_mono HO360.out (fun _ hk => ⟨hk.1.1.2, hk.1.2⟩)⟩, ⟨by (with_reducible repeat (first | apply Kd.R_alloc | apply Kd.R_drewN | apply Kd.R_drew)); exact Kd.R_mono HO364.out (fun _ hk => hk.1.2)⟩, ⟨by (with_reducible repeat (first | apply Kd.R_alloc | apply Kd.R_drewN | apply Kd.R_drew)); exact Kd.R_mono HO372.out (fun _ hk => hk.1.2)⟩, ⟨by repeat (first | (with_reducible first | exact HB.out | apply below_alloc | apply pw_below_drewN | apply below_drew1) | exact HB.out)⟩⟩
                  · replace c42 := Bool.eq_false_iff.mpr c42
                    subst c42
                    have H1 : (if t378 = true then (if (false == t370) = true then (laws_FnPlacingsOrRows.j0 k l1 t358 t361 false t369 t370 true) else (laws_FnPlacingsOrRows.j0 k l1 t358 t361 false t369 t370 (false != (decide (t377 > 0))))) else (laws_FnPlacingsOrRows.j0 k l1 t358 t361 false t369 t370 (false != (decide (t377 > 0))))) = some r := by rw [if_neg (show ¬ (false = true) by decide)] at H; exact H
                    clear H
                    have H := H1
                    clear H1
                    by_cases c66 : t378 = true
                    · subst c66
                      have H1 : (if (false == t370) = true then (laws_FnPlacingsOrRows.j0 k l1 t358 t361 false t369 t370 true) else (laws_FnPlacingsOrRows.j0 k l1 t358 t361 false t369 t370 (false != (decide (t377 > 0))))) = some r := by rw [if_pos rfl] at H; exact H
                      clear H
                      have H := H1
                      clear H1
                      by_cases c67 : (false == t370) = true
                      · rw [if_pos c67] at H
                        have c67b0 : (false == t370) = true := c67
                        (try (have c67b1 : decide (false = t370) = true := by simpa using c67))
                        (try (have c67b2 : (false == t370) = true := by simpa using c67))
                        clear c67
                        have H' := Aside0.mk H
                        clear H
                        obtain ⟨Ao68, co68, eo68⟩ := Kd.R_slice HO364.out
                        subst eo68
                        obtain ⟨Ao69, co69, eo69⟩ := Kd.V_slice HO367.out
                        subst eo69
                        go_wp2_with (first | (go_at_call 20; (with_reducible refine (laws_ySame.calls k _ _ t361 _ _ t365 true _ ?side1 ?side2 ?side3 ?side4 A22.out).mono ?_); (case side1 => repeat (first | exact (Kd.R_reads' HO364.out).2.2 | (with_reducible refine Kd.C_alloc ?_ _) | (with_reducible refine Kd.C_drewN ?_ _) | (with_reducible refine Kd.C_drew ?_))); (case side2 => exact (Kd.R_reads' HO364.out).2.1); (case side3 => repeat (first | exact (Kd.V_reads' HO367.out).2.2 | (with_reducible refine Kd.C_alloc ?_ _) | (with_reducible refine Kd.C_drewN ?_ _) | (with_reducible refine Kd.C_drew ?_))); (case side4 => exact (Kd.V_reads' HO367.out).2.1); rintro e w' ⟨rfl, ⟨nd, rfl⟩⟩; obtain ⟨Ao70, co70, eo70⟩ := Kd.R_slice HO372.out; subst eo70; obtain ⟨Ao71, co71, eo71⟩ := Kd.R_slice HO376.out; subst eo71) | (go_at_call 20; (with_reducible refine (laws_ySame.calls k _ _ t369 _ _ t373 true _ ?side1 ?side2 ?side3 ?side4 A27.out).mono ?_); (case side1 => repeat (first | exact (Kd.R_reads' HO372.out).2.2 | (with_reducible refine Kd.C_alloc ?_ _) | (with_reducible refine Kd.C_drewN ?_ _) | (with_reducible refine Kd.C_drew ?_))); (case side2 => exact (Kd.R_reads' HO372.out).2.1); (case side3 => repeat (first | exact (Kd.R_reads' HO376.out).2.2 | (with_reducible refine Kd.C_alloc ?_ _) | (with_reducible refine Kd.C_drewN ?_ _) | (with_reducible refine Kd.C_drew ?_))); (case side4 => exact (Kd.R_reads' HO376.out).2.1); rintro e w' ⟨rfl, ⟨nd, rfl⟩⟩) | (go_at_call 21; (with_reducible refine (impl_IsSquare.calls _ _ t358 t383 _ ?side1 ?side2 A35.out).mono ?_); (case side1 => repeat (first | exact (Kd.V_reads' HO360.out).2.2 | (with_reducible refine Kd.C_alloc ?_ _) | (with_reducible refine Kd.C_drewN ?_ _) | (with_reducible refine Kd.C_drew ?_))); (case side2 => exact (Kd.V_reads' HO360.out).2.1); rintro e w72 ⟨rfl, hb⟩; have n0_ := Aside0.mk (Kd.V_below (by (with_reducible repeat (first | apply Kd.V_alloc | apply Kd.V_drewN | apply Kd.V_drew)); exact HO360.out) hb); have n1_ := Aside0.mk (Kd.R_below (by (with_reducible repeat (first | apply Kd.R_alloc | apply Kd.R_drewN | apply Kd.R_drew)); exact HO364.out) hb); have n2_ := Aside0.mk (Kd.V_below (by (with_reducible repeat (first | apply Kd.V_alloc | apply Kd.V_drewN | apply Kd.V_drew)); exact HO367.out) hb); have n3_ := Aside0.mk (Kd.R_below (by (with_reducible repeat (first | apply Kd.R_alloc | apply Kd.R_drewN | apply Kd.R_drew)); exact HO372.out) hb); have n4_ := Aside0.mk (Kd.R_below (by (with_reducible repeat (first | apply Kd.R_alloc | apply Kd.R_drewN | apply Kd.R_drew)); exact HO376.out) hb); have n5_ := Aside0.mk (below_step (by repeat (first | (with_reducible first | exact HB.out | apply below_alloc | apply pw_below_drewN | apply below_drew1) | exact HB.out)) hb); clear HO360; clear HO364; clear HO367; clear HO372; clear HO376; clear HB; have HO360 := n0_; have HO364 := n1_; have HO367 := n2_; have HO372 := n3_; have HO376 := n4_; have HB := n5_; clear n0_ n1_ n2_ n3_ n4_ n5_; (try clear hb); (try clear hb2); (try clear hk); (try clear hi)))
                        go_meet
                        case rel => exact ⟨_, (true), (by first | rfl | (simp; done) | (simp [*]; done)), H', ⟨by first | omega | exact Nat.le_refl _⟩, ⟨by (with_reducible repeat (first | apply Kd.V_alloc | apply Kd.V_drewN | apply Kd.V_drew)); exact Kd.V_mono HO360.out (fun _ hk => ⟨hk.1.1.2, hk.1.2⟩)⟩, ⟨by (with_reducible repeat (first | apply Kd.R_alloc | apply Kd.R_drewN | apply Kd.R_drew)); exact Kd.R_mono HO364.out (fun _ hk => hk.1.2)⟩, ⟨by (with_reducible repeat (first | apply Kd.R_alloc | apply Kd.R_drewN | apply Kd.R_drew)); exact Kd.R_mono HO372.out (fun _ hk => hk.1.2)⟩, ⟨by repeat (first | (with_reducible first | exact HB.out | apply below_alloc | apply pw_below_drewN | apply below_drew1) | exact HB.out)⟩⟩
                      · rw [if_neg c67] at H
                        have c67b0 : (false == t370) = false := by simpa using c67
                        (try (have c67b1 : decide (false = t370) = false := by simpa using c67))
                        (try (have c67b2 : (false == t370) = false := by simpa using c67))
                        (try (have c67b3 : ¬ (false = t370) := by simpa using c67))
                        clear c67
                        have H' := Aside0.mk H
                        clear H
                        obtain ⟨Ao73, co73, eo73⟩ := Kd.R_slice HO364.out
                        subst eo73
                        obtain ⟨Ao74, co74, eo74⟩ := Kd.V_slice HO367.out
                        subst eo74
                        go_wp2_with (first | (go_at_call 20; (with_reducible refine (laws_ySame.calls k _ _ t361 _ _ t365 true _ ?side1 ?side2 ?side3 ?side4 A22.out).mono ?_); (case side1 => repeat (first | exact (Kd.R_reads' HO364.out).2.2 | (with_reducible refine Kd.C_alloc ?_ _) | (with_reducible refine Kd.C_drewN ?_ _) | (with_reducible refine Kd.C_drew ?_))); (case side2 => exact (Kd.R_reads' HO364.out).2.1); (case side3 => repeat (first | exact (Kd.V_reads' HO367.out).2.2 | (with_reducible refine Kd.C_alloc ?_ _) | (with_reducible refine Kd.C_drewN ?_ _) | (with_reducible refine Kd.C_drew ?_))); (case side4 => exact (Kd.V_reads' HO367.out).2.1); rintro e w' ⟨rfl, ⟨nd, rfl⟩⟩; obtain ⟨Ao75, co75, eo75⟩ := Kd.R_slice HO372.out; subst eo75; obtain ⟨Ao76, co76, eo76⟩ := Kd.R_slice HO376.out; subst eo76) | (go_at_call 20; (with_reducible refine (laws_ySame.calls k _ _ t369 _ _ t373 true _ ?side1 ?side2 ?side3 ?side4 A27.out).mono ?_); (case side1 => repeat (first | exact (Kd.R_reads' HO372.out).2.2 | (with_reducible refine Kd.C_alloc ?_ _) | (with_reducible refine Kd.C_drewN ?_ _) | (with_reducible refine Kd.C_drew ?_))); (case side2 => exact (Kd.R_reads' HO372.out).2.1); (case side3 => repeat (first | exact (Kd.R_reads' HO376.out).2.2 | (with_reducible refine Kd.C_alloc ?_ _) | (with_reducible refine Kd.C_drewN ?_ _) | (with_reducible refine Kd.C_drew ?_))); (case side4 => exact (Kd.R_reads' HO376.out).2.1); rintro e w' ⟨rfl, ⟨nd, rfl⟩⟩) | (go_at_call 21; (with_reducible refine (impl_IsSquare.calls _ _ t358 t383 _ ?side1 ?side2 A35.out).mono ?_); (case side1 => repeat (first | exact (Kd.V_reads' HO360.out).2.2 | (with_reducible refine Kd.C_alloc ?_ _) | (with_reducible refine Kd.C_drewN ?_ _) | (with_reducible refine Kd.C_drew ?_))); (case side2 => exact (Kd.V_reads' HO360.out).2.1); rintro e w77 ⟨rfl, hb⟩; have n0_ := Aside0.mk (Kd.V_below (by (with_reducible repeat (first | apply Kd.V_alloc | apply Kd.V_drewN | apply Kd.V_drew)); exact HO360.out) hb); have n1_ := Aside0.mk (Kd.R_below (by (with_reducible repeat (first | apply Kd.R_alloc | apply Kd.R_drewN | apply Kd.R_drew)); exact HO364.out) hb); have n2_ := Aside0.mk (Kd.V_below (by (with_reducible repeat (first | apply Kd.V_alloc | apply Kd.V_drewN | apply Kd.V_drew)); exact HO367.out) hb); have n3_ := Aside0.mk (Kd.R_below (by (with_reducible repeat (first | apply Kd.R_alloc | apply Kd.R_drewN | apply Kd.R_drew)); exact HO372.out) hb); have n4_ := Aside0.mk (Kd.R_below (by (with_reducible repeat (first | apply Kd.R_alloc | apply Kd.R_drewN | apply Kd.R_drew)); exact HO376.out) hb); have n5_ := Aside0.mk (below_step (by repeat (first | (with_reducible first | exact HB.out | apply below_alloc | apply pw_below_drewN | apply below_drew1) | exact HB.out)) hb); clear HO360; clear HO364; clear HO367; clear HO372; clear HO376; clear HB; have HO360 := n0_; have HO364 := n1_; have HO367 := n2_; have HO372 := n3_; have HO376 := n4_; have HB := n5_; clear n0_ n1_ n2_ n3_ n4_ n5_; (try clear hb); (try clear hb2); (try clear hk); (try clear hi)))
                        go_meet
                        case rel => exact ⟨_, ((false != (decide (t377 > 0)))), (by first | rfl | (simp; done) | (simp [*]; done)), H', ⟨by first | omega | exact Nat.le_refl _⟩, ⟨by (with_reducible repeat (first | apply Kd.V_alloc | apply Kd.V_drewN | apply Kd.V_drew)); exact Kd.V_mono HO360.out (fun _ hk => ⟨hk.1.1.2, hk.1.2⟩)⟩, ⟨by (with_reducible repeat (first | apply Kd.R_alloc | apply Kd.R_drewN | apply Kd.R_drew)); exact Kd.R_mono HO364.out (fun _ hk => hk.1.2)⟩, ⟨by (with_reducible repeat (first | apply Kd.R_alloc | apply Kd.R_drewN | apply Kd.R_drew)); exact Kd.R_mono HO372.out (fun _ hk => hk.1.2)⟩, ⟨by repeat (first | (with_reducible first | exact HB.out | apply below_alloc | apply pw_below_drewN | apply below_drew1) | exact HB.out)⟩⟩
                    · replace c66 := Bool.eq_false_iff.mpr c66
                      subst c66
                      have H1 : (laws_FnPlacingsOrRows.j0 k l1 t358 t361 false t369 t370 (false != (decide (t377 > 0)))) = some r := by rw [if_neg (show ¬ (false = true) by decide)] at H; exact H
                      clear H
                      have H := H1
                      clear H1
                      have H' := Aside0.mk H
                      clear H
                      obtain ⟨Ao78, co78, eo78⟩ := Kd.R_slice HO364.out
                      subst eo78
                      obtain ⟨Ao79, co79, eo79⟩ := Kd.V_slice HO367.out
                      subst eo79
                      go_wp2_with (first | (go_at_call 20; (with_reducible refine (laws_ySame.calls k _ _ t361 _ _ t365 true _ ?side1 ?side2 ?side3 ?side4 A22.out).mono ?_); (case side1 => repeat (first | exact (Kd.R_reads' HO364.out).2.2 | (with_reducible refine Kd.C_alloc ?_ _) | (with_reducible refine Kd.C_drewN ?_ _) | (with_reducible refine Kd.C_drew ?_))); (case side2 => exact (Kd.R_reads' HO364.out).2.1); (case side3 => repeat (first | exact (Kd.V_reads' HO367.out).2.2 | (with_reducible refine Kd.C_alloc ?_ _) | (with_reducible refine Kd.C_drewN ?_ _) | (with_reducible refine Kd.C_drew ?_))); (case side4 => exact (Kd.V_reads' HO367.out).2.1); rintro e w' ⟨rfl, ⟨nd, rfl⟩⟩; obtain ⟨Ao80, co80, eo80⟩ := Kd.R_slice HO372.out; subst eo80; obtain ⟨Ao81, co81, eo81⟩ := Kd.R_slice HO376.out; subst eo81) | (go_at_call 20; (with_reducible refine (laws_ySame.calls k _ _ t369 _ _ t373 true _ ?side1 ?side2 ?side3 ?side4 A27.out).mono ?_); (case side1 => repeat (first | exact (Kd.R_reads' HO372.out).2.2 | (with_reducible refine Kd.C_alloc ?_ _) | (with_reducible refine Kd.C_drewN ?_ _) | (with_reducible refine Kd.C_drew ?_))); (case side2 => exact (Kd.R_reads' HO372.out).2.1); (case side3 => repeat (first | exact (Kd.R_reads' HO376.out).2.2 | (with_reducible refine Kd.C_alloc ?_ _) | (with_reducible refine Kd.C_drewN ?_ _) | (with_reducible refine Kd.C_drew ?_))); (case side4 => exact (Kd.R_reads' HO376.out).2.1); rintro e w' ⟨rfl, ⟨nd, rfl⟩⟩) | (go_at_call 21; (with_reducible refine (impl_IsSquare.calls _ _ t358 t383 _ ?side1 ?side2 A35.out).mono ?_); (case side1 => repeat (first | exact (Kd.V_reads' HO360.out).2.2 | (with_reducible refine Kd.C_alloc ?_ _) | (with_reducible refine Kd.C_drewN ?_ _) | (with_reducible refine Kd.C_drew ?_))); (case side2 => exact (Kd.V_reads' HO360.out).2.1); rintro e w82 ⟨rfl, hb⟩; have n0_ := Aside0.mk (Kd.V_below (by (with_reducible repeat (first | apply Kd.V_alloc | apply Kd.V_drewN | apply Kd.V_drew)); exact HO360.out) hb); have n1_ := Aside0.mk (Kd.R_below (by (with_reducible repeat (first | apply Kd.R_alloc | apply Kd.R_drewN | apply Kd.R_drew)); exact HO364.out) hb); have n2_ := Aside0.mk (Kd.V_below (by (with_reducible repeat (first | apply Kd.V_alloc | apply Kd.V_drewN | apply Kd.V_drew)); exact HO367.out) hb); have n3_ := Aside0.mk (Kd.R_below (by (with_reducible repeat (first | apply Kd.R_alloc | apply Kd.R_drewN | apply Kd.R_drew)); exact HO372.out) hb); have n4_ := Aside0.mk (Kd.R_below (by (with_reducible repeat (first | apply Kd.R_alloc | apply Kd.R_drewN | apply Kd.R_drew)); exact HO376.out) hb); have n5_ := Aside0.mk (below_step (by repeat (first | (with_reducible first | exact HB.out | apply below_alloc | apply pw_below_drewN | apply below_drew1) | exact HB.out)) hb); clear HO360; clear HO364; clear HO367; clear HO372; clear HO376; clear HB; have HO360 := n0_; have HO364 := n1_; have HO367 := n2_; have HO372 := n3_; have HO376 := n4_; have HB := n5_; clear n0_ n1_ n2_ n3_ n4_ n5_; (try clear hb); (try clear hb2); (try clear hk); (try clear hi)))
                      go_meet
                      case rel => exact ⟨_, ((false != (decide (t377 > 0)))), (by first | rfl | (simp; done) | (simp [*]; done)), H', ⟨by first | omega | exact Nat.le_refl _⟩, ⟨by (with_reducible repeat (first | apply Kd.V_alloc | apply Kd.V_drewN | apply Kd.V_drew)); exact Kd.V_mono HO360.out (fun _ hk => ⟨hk.1.1.2, hk.1.2⟩)⟩, ⟨by (with_reducible repeat (first | apply Kd.R_alloc | apply Kd.R_drewN | apply Kd.R_drew)); exact Kd.R_mono HO364.out (fun _ hk => hk.1.2)⟩, ⟨by (with_reducible repeat (first | apply Kd.R_alloc | apply Kd.R_drewN | apply Kd.R_drew)); exact Kd.R_mono HO372.out (fun _ hk => hk.1.2)⟩, ⟨by repeat (first | (with_reducible first | exact HB.out | apply below_alloc | apply pw_below_drewN | apply below_drew1) | exact HB.out)⟩⟩
              · rw [if_neg c34] at H
                have c34b0 : (t377 == t379) = false := beq_eq_false_iff_ne.mpr c34
                have c34b1 : (t377 != t379) = true := bne_iff_ne.mpr c34
                have H' := Aside0.mk H
                clear H
                obtain ⟨Ao83, co83, eo83⟩ := Kd.R_slice HO364.out
                subst eo83
                obtain ⟨Ao84, co84, eo84⟩ := Kd.V_slice HO367.out
                subst eo84
                go_wp2_with (first | (go_at_call 20; (with_reducible refine (laws_ySame.calls k _ _ t361 _ _ t365 true _ ?side1 ?side2 ?side3 ?side4 A22.out).mono ?_); (case side1 => repeat (first | exact (Kd.R_reads' HO364.out).2.2 | (with_reducible refine Kd.C_alloc ?_ _) | (with_reducible refine Kd.C_drewN ?_ _) | (with_reducible refine Kd.C_drew ?_))); (case side2 => exact (Kd.R_reads' HO364.out).2.1); (case side3 => repeat (first | exact (Kd.V_reads' HO367.out).2.2 | (with_reducible refine Kd.C_alloc ?_ _) | (with_reducible refine Kd.C_drewN ?_ _) | (with_reducible refine Kd.C_drew ?_))); (case side4 => exact (Kd.V_reads' HO367.out).2.1); rintro e w' ⟨rfl, ⟨nd, rfl⟩⟩; obtain ⟨Ao85, co85, eo85⟩ := Kd.R_slice HO372.out; subst eo85; obtain ⟨Ao86, co86, eo86⟩ := Kd.R_slice HO376.out; subst eo86) | (go_at_call 20; (with_reducible refine (laws_ySame.calls k _ _ t369 _ _ t373 true _ ?side1 ?side2 ?side3 ?side4 A27.out).mono ?_); (case side1 => repeat (first | exact (Kd.R_reads' HO372.out).2.2 | (with_reducible refine Kd.C_alloc ?_ _) | (with_reducible refine Kd.C_drewN ?_ _) | (with_reducible refine Kd.C_drew ?_))); (case side2 => exact (Kd.R_reads' HO372.out).2.1); (case side3 => repeat (first | exact (Kd.R_reads' HO376.out).2.2 | (with_reducible refine Kd.C_alloc ?_ _) | (with_reducible refine Kd.C_drewN ?_ _) | (with_reducible refine Kd.C_drew ?_))); (case side4 => exact (Kd.R_reads' HO376.out).2.1); rintro e w' ⟨rfl, ⟨nd, rfl⟩⟩))
                go_meet
                case rel => exact ⟨_, (true), (by first | rfl | (simp; done) | (simp [*]; done)), H', ⟨by first | omega | exact Nat.le_refl _⟩, ⟨by (with_reducible repeat (first | apply Kd.V_alloc | apply Kd.V_drewN | apply Kd.V_drew)); exact Kd.V_mono HO360.out (fun _ hk => ⟨hk.1.1.2, hk.1.2⟩)⟩, ⟨by (with_reducible repeat (first | apply Kd.R_alloc | apply Kd.R_drewN | apply Kd.R_drew)); exact Kd.R_mono HO364.out (fun _ hk => hk.1.2)⟩, ⟨by (with_reducible repeat (first | apply Kd.R_alloc | apply Kd.R_drewN | apply Kd.R_drew)); exact Kd.R_mono HO372.out (fun _ hk => hk.1.2)⟩, ⟨by repeat (first | (with_reducible first | exact HB.out | apply below_alloc | apply pw_below_drewN | apply below_drew1) | exact HB.out)⟩⟩
          · replace c28 := Bool.eq_false_iff.mpr c28
            subst c28
            have H1 : (laws_FnPlacingsOrRows.j0 k l1 t358 t361 t362 t369 t370 true) = some r := by rw [if_neg (show ¬ (false = true) by decide)] at H; exact H
            clear H
            have H := H1
            clear H1
            have H' := Aside0.mk H
            clear H
            obtain ⟨Ao87, co87, eo87⟩ := Kd.R_slice HO364.out
            subst eo87
            obtain ⟨Ao88, co88, eo88⟩ := Kd.V_slice HO367.out
            subst eo88
            go_wp2_with (first | (go_at_call 20; (with_reducible refine (laws_ySame.calls k _ _ t361 _ _ t365 true _ ?side1 ?side2 ?side3 ?side4 A22.out).mono ?_); (case side1 => repeat (first | exact (Kd.R_reads' HO364.out).2.2 | (with_reducible refine Kd.C_alloc ?_ _) | (with_reducible refine Kd.C_drewN ?_ _) | (with_reducible refine Kd.C_drew ?_))); (case side2 => exact (Kd.R_reads' HO364.out).2.1); (case side3 => repeat (first | exact (Kd.V_reads' HO367.out).2.2 | (with_reducible refine Kd.C_alloc ?_ _) | (with_reducible refine Kd.C_drewN ?_ _) | (with_reducible refine Kd.C_drew ?_))); (case side4 => exact (Kd.V_reads' HO367.out).2.1); rintro e w' ⟨rfl, ⟨nd, rfl⟩⟩; obtain ⟨Ao89, co89, eo89⟩ := Kd.R_slice HO372.out; subst eo89; obtain ⟨Ao90, co90, eo90⟩ := Kd.R_slice HO376.out; subst eo90) | (go_at_call 20; (with_reducible refine (laws_ySame.calls k _ _ t369 _ _ t373 false _ ?side1 ?side2 ?side3 ?side4 A27.out).mono ?_); (case side1 => repeat (first | exact (Kd.R_reads' HO372.out).2.2 | (with_reducible refine Kd.C_alloc ?_ _) | (with_reducible refine Kd.C_drewN ?_ _) | (with_reducible refine Kd.C_drew ?_))); (case side2 => exact (Kd.R_reads' HO372.out).2.1); (case side3 => repeat (first | exact (Kd.R_reads' HO376.out).2.2 | (with_reducible refine Kd.C_alloc ?_ _) | (with_reducible refine Kd.C_drewN ?_ _) | (with_reducible refine Kd.C_drew ?_))); (case side4 => exact (Kd.R_reads' HO376.out).2.1); rintro e w' ⟨rfl, ⟨nd, rfl⟩⟩))
            go_meet
            case rel => exact ⟨_, (true), (by first | rfl | (simp; done) | (simp [*]; done)), H', ⟨by first | omega | exact Nat.le_refl _⟩, ⟨by (with_reducible repeat (first | apply Kd.V_alloc | apply Kd.V_drewN | apply Kd.V_drew)); exact Kd.V_mono HO360.out (fun _ hk => ⟨hk.1.1.2, hk.1.2⟩)⟩, ⟨by (with_reducible repeat (first | apply Kd.R_alloc | apply Kd.R_drewN | apply Kd.R_drew)); exact Kd.R_mono HO364.out (fun _ hk => hk.1.2)⟩, ⟨by (with_reducible repeat (first | apply Kd.R_alloc | apply Kd.R_drewN | apply Kd.R_drew)); exact Kd.R_mono HO372.out (fun _ hk => hk.1.2)⟩, ⟨by repeat (first | (with_reducible first | exact HB.out | apply below_alloc | apply pw_below_drewN | apply below_drew1) | exact HB.out)⟩⟩
      · replace c23 := Bool.eq_false_iff.mpr c23
        subst c23
        have H1 : (laws_FnPlacingsOrRows.j0 k l1 t358 t361 t362 t369 t370 true) = some r := by rw [if_neg (show ¬ (false = true) by decide)] at H; exact H
        clear H
        have H := H1
        clear H1
        have H' := Aside0.mk H
        clear H
        obtain ⟨Ao91, co91, eo91⟩ := Kd.R_slice HO364.out
        subst eo91
        obtain ⟨Ao92, co92, eo92⟩ := Kd.V_slice HO367.out
        subst eo92
        go_wp2_with (first | (go_at_call 20; (with_reducible refine (laws_ySame.calls k _ _ t361 _ _ t365 false _ ?side1 ?side2 ?side3 ?side4 A22.out).mono ?_); (case side1 => repeat (first | exact (Kd.R_reads' HO364.out).2.2 | (with_reducible refine Kd.C_alloc ?_ _) | (with_reducible refine Kd.C_drewN ?_ _) | (with_reducible refine Kd.C_drew ?_))); (case side2 => exact (Kd.R_reads' HO364.out).2.1); (case side3 => repeat (first | exact (Kd.V_reads' HO367.out).2.2 | (with_reducible refine Kd.C_alloc ?_ _) | (with_reducible refine Kd.C_drewN ?_ _) | (with_reducible refine Kd.C_drew ?_))); (case side4 => exact (Kd.V_reads' HO367.out).2.1); rintro e w' ⟨rfl, ⟨nd, rfl⟩⟩))
        go_meet
        case rel => exact ⟨_, (true), (by first | rfl | (simp; done) | (simp [*]; done)), H', ⟨by first | omega | exact Nat.le_refl _⟩, ⟨by (with_reducible repeat (first | apply Kd.V_alloc | apply Kd.V_drewN | apply Kd.V_drew)); exact Kd.V_mono HO360.out (fun _ hk => ⟨hk.1.1.2, hk.1.2⟩)⟩, ⟨by (with_reducible repeat (first | apply Kd.R_alloc | apply Kd.R_drewN | apply Kd.R_drew)); exact Kd.R_mono HO364.out (fun _ hk => hk.1.2)⟩, ⟨by (with_reducible repeat (first | apply Kd.R_alloc | apply Kd.R_drewN | apply Kd.R_drew)); exact Kd.R_mono HO372.out (fun _ hk => hk.1.2)⟩, ⟨by repeat (first | (with_reducible first | exact HB.out | apply below_alloc | apply pw_below_drewN | apply below_drew1) | exact HB.out)⟩⟩
   case rest => as_aux_lemma =>
    clear HC12
    try clear c1
    try clear c2
    try clear p2
    try clear c3
    try clear c4
    try clear c5
    try clear c6
    try clear c8
    try clear c14
    try clear c15
    try clear c16
    try clear c17
    try clear c18
    try clear c19
    try clear c21
    try clear c21b0
    try clear c21b1
    try clear c21b2
    try clear c23
    try clear c24
    try clear c24b0
    try clear c24b1
    try clear c24b2
    try clear c28
    try clear c29
    try clear c29b0
    try clear c29b1
    try clear c29b2
    try clear c34
    try clear c34b0
    try clear c34b1
    try clear c36
    try clear c36b0
    try clear c36b1
    try clear c36b2
    try clear c42
    try clear c43
    try clear c49
    try clear c50
    try clear c50b0
    try clear c50b1
    try clear c50b2
    try clear c66
    try clear c67
    try clear c67b0
    try clear c67b1
    try clear c67b2
    obtain ⟨kq, x126_11, rfl, HA, HJ11, HO_5, HO_6, HO_10, HB⟩ := hcut
    cases kq with
    | zero => exact absurd HA.out (by simp [laws_FnPlacingsOrRows.j0])
    | succ kj11 =>
     have H := HA.out
     clear HA
     simp only [laws_FnPlacingsOrRows.j0] at H
     by_cases c93 : x126_11 = true
     · subst c93
       have H1 : (some false) = some r := by rw [if_pos rfl] at H; exact H
       clear H
       have H := H1
       clear H1
       obtain rfl := Option.some.inj H
       go_wp2
       go_ret
       exact ⟨by first | rfl | (simp [errW_none, errW_some] <;> rfl) | (simp [*, errW_none, errW_some] <;> rfl), by repeat (first | (with_reducible first | exact HB.out | apply below_alloc | apply pw_below_drewN | apply below_drew1) | exact HB.out)⟩
     · replace c93 := Bool.eq_false_iff.mpr c93
       subst c93
       have H1 : (if t362 = true then ((impl_IsPlacing.f kj11 t361).bind fun t384 => (if t384 = true then (laws_FnPlacingsOrRows.j1 kj11 l1 t358 t361 t369 t370 ((t361.length : Int) != (t358.length : Int))) else (laws_FnPlacingsOrRows.j1 kj11 l1 t358 t361 t369 t370 true))) else (laws_FnPlacingsOrRows.j3 kj11 l1 t358 t369 t370)) = some r := by rw [if_neg (show ¬ (false = true) by decide)] at H; exact H
       clear H
       have H := H1
       clear H1
       have HC94 := Aside0.mk H
       clear H
       go_upto_if 127 with (fail)
       go_cut [] (fun wc => ∃ (kq : Nat), Aside0 (laws_FnPlacingsOrRows.j3 kq l1 t358 t369 t370 = some r) ∧ Aside0 (kq ≤ kj11) ∧ Aside0 (Kd.V (Kd.slice 3 (Kd.int .i64)) 24 wc w.heap.size (fun k_ => some k_ ≠ (v371 : Value).ownBlock) (.slice Ao14 t358.length co14) t358) ∧ Aside0 (Kd.R (Kd.int .i64) 3 wc w.heap.size (fun _ => True) v371 t369) ∧ Aside0 (Below w.heap.size w wc))
       case first => as_aux_lemma =>
        have H := HC94.out
        clear HC94
        by_cases c95 : t362 = true
        · subst c95
          have H1 : ((impl_IsPlacing.f kj11 t361).bind fun t384 => (if t384 = true then (laws_FnPlacingsOrRows.j1 kj11 l1 t358 t361 t369 t370 ((t361.length : Int) != (t358.length : Int))) else (laws_FnPlacingsOrRows.j1 kj11 l1 t358 t361 t369 t370 true))) = some r := by rw [if_pos rfl] at H; exact H
          clear H
          have H := H1
          clear H1
          have HC96 := Aside0.mk H
          clear H
          go_upto_region 13 with (fail)
          go_cut [137] (fun v137 wc => ∃ (kq : Nat) (x137_95 : Bool), v137 = .bool x137_95 ∧ Aside0 (laws_FnPlacingsOrRows.j1 kq l1 t358 t361 t369 t370 x137_95 = some r) ∧ Aside0 (kq ≤ kj11) ∧ Aside0 (Kd.V (Kd.slice 3 (Kd.int .i64)) 24 wc w.heap.size (fun k_ => some k_ ≠ (v363 : Value).ownBlock ∧ some k_ ≠ (v371 : Value).ownBlock) (.slice Ao14 t358.length co14) t358) ∧ Aside0 (Kd.R (Kd.int .i64) 3 wc w.heap.size (fun k_ => some k_ ≠ (v371 : Value).ownBlock) v363 t361) ∧ Aside0 (Kd.R (Kd.int .i64) 3 wc w.heap.size (fun k_ => some k_ ≠ (v363 : Value).ownBlock) v371 t369) ∧ Aside0 (Below w.heap.size w wc))
          case first => as_aux_lemma =>
           have H := HC96.out
           clear HC96
           replace H := Option.bind_eq_some_iff.mp H
           obtain ⟨t384, A970, H⟩ := H
           replace H : (if t384 = true then (laws_FnPlacingsOrRows.j1 kj11 l1 t358 t361 t369 t370 ((t361.length : Int) != (t358.length : Int))) else (laws_FnPlacingsOrRows.j1 kj11 l1 t358 t361 t369 t370 true)) = some r := H
           have A97 := Aside0.mk A970
           clear A970
           by_cases c98 : t384 = true
           · subst c98
             have H1 : (laws_FnPlacingsOrRows.j1 kj11 l1 t358 t361 t369 t370 ((t361.length : Int) != (t358.length : Int))) = some r := by rw [if_pos rfl] at H; exact H
             clear H
             have H := H1
             clear H1
             have H' := Aside0.mk H
             clear H
             obtain ⟨Ao99, co99, eo99⟩ := Kd.R_slice HO_6.out
             subst eo99
             go_wp2_with (first | ((with_reducible refine gate_callee (f := 22) rfl ?_); refine goesL_ (some 129) rfl rfl Tryd.func22 (by kernel_rfl) rfl #[.slice Ao99 t361.length co99] rfl (by (try simp only [List.map_toArray, List.map_cons, List.map_nil]); first | done | rfl | (simp only [List.length_drop, List.length_take]; rfl)) ?_; (with_reducible refine (impl_IsPlacing.calls kj11 _ _ t361 true _ ?side1 ?side2 A97.out).mono ?_); (case side1 => repeat (first | exact (Kd.R_reads' HO_6.out).2.2 | (with_reducible refine Kd.C_alloc ?_ _) | (with_reducible refine Kd.C_drewN ?_ _) | (with_reducible refine Kd.C_drew ?_))); (case side2 => exact (Kd.R_reads' HO_6.out).2.1); rintro e w' ⟨rfl, ⟨nd, rfl⟩⟩; refine ⟨_, rfl, ?_⟩))
             go_meet
             case rel => exact ⟨_, (((t361.length : Int) != (t358.length : Int))), (by first | rfl | (simp; done) | (simp [*]; done)), H', ⟨by have := HJ11.out; first | omega | exact Nat.le_refl _⟩, ⟨by (with_reducible repeat (first | apply Kd.V_alloc | apply Kd.V_drewN | apply Kd.V_drew)); exact HO_5.out⟩, ⟨by (with_reducible repeat (first | apply Kd.R_alloc | apply Kd.R_drewN | apply Kd.R_drew)); exact HO_6.out⟩, ⟨by (with_reducible repeat (first | apply Kd.R_alloc | apply Kd.R_drewN | apply Kd.R_drew)); exact HO_10.out⟩, ⟨by repeat (first | (with_reducible first | exact HB.out | apply below_alloc | apply pw_below_drewN | apply below_drew1) | exact HB.out)⟩⟩
           · replace c98 := Bool.eq_false_iff.mpr c98
             subst c98
             have H1 : (laws_FnPlacingsOrRows.j1 kj11 l1 t358 t361 t369 t370 true) = some r := by rw [if_neg (show ¬ (false = true) by decide)] at H; exact H
             clear H
             have H := H1
             clear H1
             have H' := Aside0.mk H
             clear H
             obtain ⟨Ao100, co100, eo100⟩ := Kd.R_slice HO_6.out
             subst eo100
             go_wp2_with (first | ((with_reducible refine gate_callee (f := 22) rfl ?_); refine goesL_ (some 129) rfl rfl Tryd.func22 (by kernel_rfl) rfl #[.slice Ao100 t361.length co100] rfl (by (try simp only [List.map_toArray, List.map_cons, List.map_nil]); first | done | rfl | (simp only [List.length_drop, List.length_take]; rfl)) ?_; (with_reducible refine (impl_IsPlacing.calls kj11 _ _ t361 false _ ?side1 ?side2 A97.out).mono ?_); (case side1 => repeat (first | exact (Kd.R_reads' HO_6.out).2.2 | (with_reducible refine Kd.C_alloc ?_ _) | (with_reducible refine Kd.C_drewN ?_ _) | (with_reducible refine Kd.C_drew ?_))); (case side2 => exact (Kd.R_reads' HO_6.out).2.1); rintro e w' ⟨rfl, ⟨nd, rfl⟩⟩; refine ⟨_, rfl, ?_⟩))
             go_meet
             case rel => exact ⟨_, (true), (by first | rfl | (simp; done) | (simp [*]; done)), H', ⟨by have := HJ11.out; first | omega | exact Nat.le_refl _⟩, ⟨by (with_reducible repeat (first | apply Kd.V_alloc | apply Kd.V_drewN | apply Kd.V_drew)); exact HO_5.out⟩, ⟨by (with_reducible repeat (first | apply Kd.R_alloc | apply Kd.R_drewN | apply Kd.R_drew)); exact HO_6.out⟩, ⟨by (with_reducible repeat (first | apply Kd.R_alloc | apply Kd.R_drewN | apply Kd.R_drew)); exact HO_10.out⟩, ⟨by repeat (first | (with_reducible first | exact HB.out | apply below_alloc | apply pw_below_drewN | apply below_drew1) | exact HB.out)⟩⟩
          case rest => as_aux_lemma =>
           clear HC96
           try clear c1
           try clear c2
           try clear p2
           try clear c3
           try clear c4
           try clear c5
           try clear c6
           try clear c8
           try clear c9
           try clear c14
           try clear c15
           try clear c16
           try clear c17
           try clear c18
           try clear c19
           try clear c21
           try clear c21b0
           try clear c21b1
           try clear c21b2
           try clear c22
           try clear c23
           try clear c24
           try clear c24b0
           try clear c24b1
           try clear c24b2
           try clear c28
           try clear c29
           try clear c29b0
           try clear c29b1
           try clear c29b2
           try clear c34
           try clear c34b0
           try clear c34b1
           try clear c36
           try clear c36b0
           try clear c36b1
           try clear c36b2
           try clear c42
           try clear c43
           try clear c49
           try clear c50
           try clear c50b0
           try clear c50b1
           try clear c50b2
           try clear c66
           try clear c67
           try clear c67b0
           try clear c67b1
           try clear c67b2
           try clear c93
           try clear c95
           try clear c98
           try clear p2
           obtain ⟨kq, x137_95, rfl, HA, HJ95, HO_5, HO_6, HO_10, HB⟩ := hcut
           cases kq with
           | zero => exact absurd HA.out (by simp [laws_FnPlacingsOrRows.j1])
           | succ kj95 =>
            have H := HA.out
            clear HA
            simp only [laws_FnPlacingsOrRows.j1] at H
            by_cases c101 : x137_95 = true
            · subst c101
              have H1 : (some false) = some r := by rw [if_pos rfl] at H; exact H
              clear H
              have H := H1
              clear H1
              obtain rfl := Option.some.inj H
              go_wp2
              go_ret
              exact ⟨by first | rfl | (simp [errW_none, errW_some] <;> rfl) | (simp [*, errW_none, errW_some] <;> rfl), by repeat (first | (with_reducible first | exact HB.out | apply below_alloc | apply pw_below_drewN | apply below_drew1) | exact HB.out)⟩
            · replace c101 := Bool.eq_false_iff.mpr c101
              subst c101
              have H1 : (laws_FnPlacingsOrRows.l0 kj95 l1 t358 t369 t370 t361 (t361.length : Int) 0) = some r := by rw [if_neg (show ¬ (false = true) by decide)] at H; exact H
              clear H
              have H := H1
              clear H1
              have H' := Aside0.mk H
              clear H
              obtain ⟨Ao102, co102, eo102⟩ := Kd.R_slice HO_6.out
              subst eo102
              go_wp2
              go_loopg [140] kj95 (fun kq v140 w' => ∃ (x140_3 : Int), v140 = .int .i64 x140_3 ∧ Aside0 (laws_FnPlacingsOrRows.l0 kq l1 t358 t369 t370 t361 (t361.length : Int) x140_3 = some r) ∧ Aside0 (kq ≤ kj95) ∧ Aside0 (Kd.V (Kd.slice 3 (Kd.int .i64)) 24 w' w.heap.size (fun k_ => some k_ ≠ (v371 : Value).ownBlock ∧ some k_ ≠ ((.slice Ao102 t361.length co102) : Value).ownBlock) (.slice Ao14 t358.length co14) t358) ∧ Aside0 (Kd.R (Kd.int .i64) 3 w' w.heap.size (fun k_ => some k_ ≠ ((.slice Ao102 t361.length co102) : Value).ownBlock) v371 t369) ∧ Aside0 (Kd.R (Kd.int .i64) 3 w' w.heap.size (fun k_ => some k_ ≠ (v371 : Value).ownBlock) (.slice Ao102 t361.length co102) t361) ∧ Aside0 (Below w.heap.size w w'))
              case atStart => exact ⟨(0), (by first | rfl | (simp; done) | (simp [*]; done)), H', ⟨Nat.le_refl _⟩, ⟨by (with_reducible repeat (first | apply Kd.V_alloc | apply Kd.V_drewN | apply Kd.V_drew)); exact Kd.V_mono HO_5.out (fun _ hk => ⟨hk.2, hk.1⟩)⟩, ⟨by (with_reducible repeat (first | apply Kd.R_alloc | apply Kd.R_drewN | apply Kd.R_drew)); exact HO_10.out⟩, ⟨by (with_reducible repeat (first | apply Kd.R_alloc | apply Kd.R_drewN | apply Kd.R_drew)); exact HO_6.out⟩, ⟨by repeat (first | (with_reducible first | exact HB.out | apply below_alloc | apply pw_below_drewN | apply below_drew1) | exact HB.out)⟩⟩
              case round =>
               clear H'
               try clear c1
               try clear c2
               try clear p2
               try clear c3
               try clear c4
               try clear c5
               try clear c6
               try clear c8
               try clear c9
               try clear c10
               try clear c14
               try clear c15
               try clear c16
               try clear c17
               try clear c18
               try clear c19
               try clear c21
               try clear c21b0
               try clear c21b1
               try clear c21b2
               try clear c22
               try clear c23
               try clear c24
               try clear c24b0
               try clear c24b1
               try clear c24b2
               try clear c28
               try clear c29
               try clear c29b0
               try clear c29b1
               try clear c29b2
               try clear c34
               try clear c34b0
               try clear c34b1
               try clear c36
               try clear c36b0
               try clear c36b1
               try clear c36b2
               try clear c42
               try clear c43
               try clear c49
               try clear c50
               try clear c50b0
               try clear c50b1
               try clear c50b2
               try clear c66
               try clear c67
               try clear c67b0
               try clear c67b1
               try clear c67b2
               try clear c93
               try clear c95
               try clear c98
               try clear c101
               try clear p2
               obtain ⟨x140_3, rfl, HA, HK3, HO_5, HO_10, HO_138, HB⟩ := hrel
               cases gk with
               | zero => exact absurd HA.out (by simp [laws_FnPlacingsOrRows.l0])
               | succ k3 =>
                have H := HA.out
                clear HA
                simp only [laws_FnPlacingsOrRows.l0] at H
                by_cases c103 : x140_3 < (t361.length : Int)
                · rw [if_pos c103] at H
                  have c103b0 : decide (x140_3 < (t361.length : Int)) = true := decide_eq_true c103
                  clear c103
                  by_cases c104 : 0 ≤ x140_3
                  · rw [if_pos c104] at H
                    have c104b0 : decide (0 ≤ x140_3) = true := decide_eq_true c104
                    clear c104
                    by_cases c105 : x140_3 < (t361.length : Int)
                    · rw [if_pos c105] at H
                      have c105b0 : decide (x140_3 < (t361.length : Int)) = true := decide_eq_true c105
                      clear c105
                      by_cases c106 : x140_3 < (t358.length : Int)
                      · rw [if_pos c106] at H
                        have c106b0 : decide (x140_3 < (t358.length : Int)) = true := decide_eq_true c106
                        clear c106
                        by_cases c107 : 0 ≤ (rd t361 x140_3)
                        · rw [if_pos c107] at H
                          have c107b0 : decide (0 ≤ (rd t361 x140_3)) = true := decide_eq_true c107
                          clear c107
                          by_cases c108 : (rd t361 x140_3) < ((rd_L1 t358 x140_3).length : Int)
                          · rw [if_pos c108] at H
                            have c108b0 : decide ((rd t361 x140_3) < ((rd_L1 t358 x140_3).length : Int)) = true := decide_eq_true c108
                            clear c108
                            by_cases c109 : (rd (rd_L1 t358 x140_3) (rd t361 x140_3)) < 1
                            · rw [if_pos c109] at H
                              have c109b0 : decide ((rd (rd_L1 t358 x140_3) (rd t361 x140_3)) < 1) = true := decide_eq_true c109
                              clear c109
                              obtain rfl := Option.some.inj H
                              have p385 : 0 ≤ (x140_3 : Int) := of_decide_eq_true (by first | (with_reducible assumption) | assumption)
                              have q385 : x140_3 < (t361.length : Int) := of_decide_eq_true (by first | (with_reducible assumption) | assumption)
                              obtain ⟨ad385, e385, hx385_0⟩ := Kd.at_int (Kd.R_reads' HO_138.out).2.2 x140_3 p385 q385
                              cases e385
                              replace p385 := eq_true p385
                              replace q385 := eq_true q385
                              have p386 : 0 ≤ (x140_3 : Int) := of_decide_eq_true (by first | (with_reducible assumption) | assumption)
                              have q386 : x140_3 < (t358.length : Int) := of_decide_eq_true (by first | (with_reducible assumption) | assumption)
                              obtain ⟨ad386, A386_0, c386_0, e386, hx386_0, hl386_0, hi386_0⟩ := at_L1 (Kd.V_reads' HO_5.out).2.2 x140_3 p386 q386
                              cases e386
                              obtain ⟨ce386, hce386, hMe386, hcc386⟩ := Kd.V_get HO_5.out [] x140_3 p386 (by first | exact q386 | exact of_decide_eq_true (by first | (with_reducible assumption) | assumption) | (have e_ := (Kd.V_reads' HO_5.out).1; omega))
                              obtain ⟨ua386_0, uc386_0, rfl, ul386_0, ge386_0⟩ := Kd.FK_slice_open hMe386
                              have hv386_0 := hcc386 0 _ rfl
                              rw [Nat.add_zero, show ((Kd.slice 3 (Kd.int .i64))).sz = 1 from rfl, Nat.mul_one] at hv386_0
                              replace hv386_0 := Option.some.inj (hv386_0.symm.trans hx386_0)
                              injection hv386_0 with hva_ hvn_ hvc_
                              rw [hva_] at ge386_0
                              rw [hvc_] at ul386_0
                              have HL386_0 := Aside0.mk (show Kd.V (Kd.int .i64) 3 _ w.heap.size _ _ (rd_L1 t358 x140_3) from Kd.V_mk ul386_0 ge386_0)
                              clear hva_ hvn_ hvc_ ge386_0 ul386_0
                              clear hcc386 hce386
                              have HR386_0 := Aside0.mk hi386_0
                              have HC386_0 := Aside0.mk hl386_0
                              clear hi386_0 hl386_0
                              replace p386 := eq_true p386
                              replace q386 := eq_true q386
                              have p387 : 0 ≤ ((rd t361 x140_3) : Int) := of_decide_eq_true (by first | (with_reducible assumption) | assumption)
                              have q387 : (rd t361 x140_3) < ((rd_L1 t358 x140_3).length : Int) := of_decide_eq_true (by first | (with_reducible assumption) | assumption)
                              obtain ⟨ad387, e387, hx387_0⟩ := Kd.at_int (by repeat (first | (with_reducible exact HR386_0.out) | (with_reducible refine Kd.C_alloc ?_ _) | (with_reducible refine Kd.C_drewN ?_ _) | (with_reducible refine Kd.C_drew ?_) | exact HR386_0.out)) (rd t361 x140_3) p387 q387
                              cases e387
                              replace p387 := eq_true p387
                              replace q387 := eq_true q387
                              go_wp2
                              go_ret
                              exact ⟨by first | rfl | (simp [errW_none, errW_some] <;> rfl) | (simp [*, errW_none, errW_some] <;> rfl), by repeat (first | (with_reducible first | exact HB.out | apply below_alloc | apply pw_below_drewN | apply below_drew1) | exact HB.out)⟩
                            · rw [if_neg c109] at H
                              have c109b0 : decide ((rd (rd_L1 t358 x140_3) (rd t361 x140_3)) < 1) = false := decide_eq_false c109
                              clear c109
                              have H' := Aside0.mk H
                              clear H
                              have p385 : 0 ≤ (x140_3 : Int) := of_decide_eq_true (by first | (with_reducible assumption) | assumption)
                              have q385 : x140_3 < (t361.length : Int) := of_decide_eq_true (by first | (with_reducible assumption) | assumption)
                              obtain ⟨ad385, e385, hx385_0⟩ := Kd.at_int (Kd.R_reads' HO_138.out).2.2 x140_3 p385 q385
                              cases e385
                              replace p385 := eq_true p385
                              replace q385 := eq_true q385
                              have p386 : 0 ≤ (x140_3 : Int) := of_decide_eq_true (by first | (with_reducible assumption) | assumption)
                              have q386 : x140_3 < (t358.length : Int) := of_decide_eq_true (by first | (with_reducible assumption) | assumption)
                              obtain ⟨ad386, A386_0, c386_0, e386, hx386_0, hl386_0, hi386_0⟩ := at_L1 (Kd.V_reads' HO_5.out).2.2 x140_3 p386 q386
                              cases e386
                              obtain ⟨ce386, hce386, hMe386, hcc386⟩ := Kd.V_get HO_5.out [] x140_3 p386 (by first | exact q386 | exact of_decide_eq_true (by first | (with_reducible assumption) | assumption) | (have e_ := (Kd.V_reads' HO_5.out).1; omega))
                              obtain ⟨ua386_0, uc386_0, rfl, ul386_0, ge386_0⟩ := Kd.FK_slice_open hMe386
                              have hv386_0 := hcc386 0 _ rfl
                              rw [Nat.add_zero, show ((Kd.slice 3 (Kd.int .i64))).sz = 1 from rfl, Nat.mul_one] at hv386_0
                              replace hv386_0 := Option.some.inj (hv386_0.symm.trans hx386_0)
                              injection hv386_0 with hva_ hvn_ hvc_
                              rw [hva_] at ge386_0
                              rw [hvc_] at ul386_0
                              have HL386_0 := Aside0.mk (show Kd.V (Kd.int .i64) 3 _ w.heap.size _ _ (rd_L1 t358 x140_3) from Kd.V_mk ul386_0 ge386_0)
                              clear hva_ hvn_ hvc_ ge386_0 ul386_0
                              clear hcc386 hce386
                              have HR386_0 := Aside0.mk hi386_0
                              have HC386_0 := Aside0.mk hl386_0
                              clear hi386_0 hl386_0
                              replace p386 := eq_true p386
                              replace q386 := eq_true q386
                              have p387 : 0 ≤ ((rd t361 x140_3) : Int) := of_decide_eq_true (by first | (with_reducible assumption) | assumption)
                              have q387 : (rd t361 x140_3) < ((rd_L1 t358 x140_3).length : Int) := of_decide_eq_true (by first | (with_reducible assumption) | assumption)
                              obtain ⟨ad387, e387, hx387_0⟩ := Kd.at_int (by repeat (first | (with_reducible exact HR386_0.out) | (with_reducible refine Kd.C_alloc ?_ _) | (with_reducible refine Kd.C_drewN ?_ _) | (with_reducible refine Kd.C_drew ?_) | exact HR386_0.out)) (rd t361 x140_3) p387 q387
                              cases e387
                              replace p387 := eq_true p387
                              replace q387 := eq_true q387
                              go_wp2
                              go_roundg k3
                              case measure => have := HJ11.out; have := HJ95.out; have := HK3.out; omega
                              case rel => exact ⟨(wrap64 (x140_3 + 1)), (by first | rfl | (simp; done) | (simp [*]; done)), H', ⟨by have := HJ11.out; have := HJ95.out; have := HK3.out; omega⟩, ⟨by (with_reducible repeat (first | apply Kd.V_alloc | apply Kd.V_drewN | apply Kd.V_drew)); exact HO_5.out⟩, ⟨by (with_reducible repeat (first | apply Kd.R_alloc | apply Kd.R_drewN | apply Kd.R_drew)); exact HO_10.out⟩, ⟨by (with_reducible repeat (first | apply Kd.R_alloc | apply Kd.R_drewN | apply Kd.R_drew)); exact HO_138.out⟩, ⟨by repeat (first | (with_reducible first | exact HB.out | apply below_alloc | apply pw_below_drewN | apply below_drew1) | exact HB.out)⟩⟩
                          · rw [if_neg c108] at H
                            exact absurd H (by simp)
                        · rw [if_neg c107] at H
                          exact absurd H (by simp)
                      · rw [if_neg c106] at H
                        exact absurd H (by simp)
                    · rw [if_neg c105] at H
                      exact absurd H (by simp)
                  · rw [if_neg c104] at H
                    exact absurd H (by simp)
                · rw [if_neg c103] at H
                  have c103b0 : decide (x140_3 < (t361.length : Int)) = false := decide_eq_false c103
                  clear c103
                  have H' := Aside0.mk H
                  clear H
                  go_wp2
                  go_meet
                  case rel => exact ⟨_, H', ⟨by have := HJ11.out; have := HJ95.out; have := HK3.out; first | omega | exact Nat.le_refl _⟩, ⟨by (with_reducible repeat (first | apply Kd.V_alloc | apply Kd.V_drewN | apply Kd.V_drew)); exact Kd.V_mono HO_5.out (fun _ hk => hk.1)⟩, ⟨by (with_reducible repeat (first | apply Kd.R_alloc | apply Kd.R_drewN | apply Kd.R_drew)); exact Kd.R_mono HO_10.out (fun _ hk => trivial)⟩, ⟨by repeat (first | (with_reducible first | exact HB.out | apply below_alloc | apply pw_below_drewN | apply below_drew1) | exact HB.out)⟩⟩
        · replace c95 := Bool.eq_false_iff.mpr c95
          subst c95
          have H1 : (laws_FnPlacingsOrRows.j3 kj11 l1 t358 t369 t370) = some r := by rw [if_neg (show ¬ (false = true) by decide)] at H; exact H
          clear H
          have H := H1
          clear H1
          have H' := Aside0.mk H
          clear H
          go_wp2
          go_meet
          case rel => exact ⟨_, H', ⟨by have := HJ11.out; first | omega | exact Nat.le_refl _⟩, ⟨by (with_reducible repeat (first | apply Kd.V_alloc | apply Kd.V_drewN | apply Kd.V_drew)); exact Kd.V_mono HO_5.out (fun _ hk => hk.2)⟩, ⟨by (with_reducible repeat (first | apply Kd.R_alloc | apply Kd.R_drewN | apply Kd.R_drew)); exact Kd.R_mono HO_10.out (fun _ hk => trivial)⟩, ⟨by repeat (first | (with_reducible first | exact HB.out | apply below_alloc | apply pw_below_drewN | apply below_drew1) | exact HB.out)⟩⟩
       case rest => as_aux_lemma =>
        clear HC94
        try clear c1
        try clear c2
        try clear p2
        try clear c3
        try clear p3
        try clear q3
        try clear hx3
        try clear c4
        try clear c5
        try clear c6
        try clear p6
        try clear c8
        try clear c9
        try clear c10
        try clear c14
        try clear c15
        try clear c16
        try clear c17
        try clear c18
        try clear c19
        try clear c21
        try clear c21b0
        try clear c21b1
        try clear c21b2
        try clear c22
        try clear c23
        try clear c24
        try clear c24b0
        try clear c24b1
        try clear c24b2
        try clear c28
        try clear c29
        try clear c29b0
        try clear c29b1
        try clear c29b2
        try clear c34
        try clear c34b0
        try clear c34b1
        try clear c36
        try clear c36b0
        try clear c36b1
        try clear c36b2
        try clear c38
        try clear p38
        try clear q38
        try clear hx38
        try clear c42
        try clear c43
        try clear c49
        try clear c50
        try clear c50b0
        try clear c50b1
        try clear c50b2
        try clear p64
        try clear c66
        try clear c67
        try clear c67b0
        try clear c67b1
        try clear c67b2
        try clear c93
        try clear c95
        try clear c98
        try clear c101
        try clear c103
        try clear c103b0
        try clear c104
        try clear c104b0
        try clear c105
        try clear c105b0
        try clear c106
        try clear c106b0
        try clear c107
        try clear c107b0
        try clear c108
        try clear c108b0
        try clear c109
        try clear c109b0
        try clear hx385_0
        try clear hx386_0
        try clear hx387_0
        try clear p2
        try clear p385
        try clear p386
        try clear p387
        try clear q385
        try clear q386
        try clear q387
        obtain ⟨kq, HA, HJ93, HO_5, HO_10, HB⟩ := hcut
        cases kq with
        | zero => exact absurd HA.out (by simp [laws_FnPlacingsOrRows.j3])
        | succ kj93 =>
         have H := HA.out
         clear HA
         simp only [laws_FnPlacingsOrRows.j3] at H
         have HC110 := Aside0.mk H
         clear H
         go_upto_if 154 with (fail)
         go_cut [] (fun wc => ∃ (kq : Nat), Aside0 (laws_FnPlacingsOrRows.j6 kq l1 = some r) ∧ Aside0 (kq ≤ kj93) ∧ Aside0 (Below w.heap.size w wc))
         case first => as_aux_lemma =>
          have H := HC110.out
          clear HC110
          by_cases c111 : t370 = true
          · subst c111
            have H1 : (laws_FnPlacingsOrRows.l1 kj93 l1 t358 t369 0 (t358.length : Int) 0) = some r := by rw [if_pos rfl] at H; exact H
            clear H
            have H := H1
            clear H1
            have H' := Aside0.mk H
            clear H
            go_wp2
            go_loopg [20, 157] kj93 (fun kq v20 v157 w' => ∃ (x20_3 : Int) (x157_3 : Int), v20 = .int .i64 x20_3 ∧ v157 = .int .i64 x157_3 ∧ Aside0 (laws_FnPlacingsOrRows.l1 kq l1 t358 t369 x20_3 (t358.length : Int) x157_3 = some r) ∧ Aside0 (kq ≤ kj93) ∧ Aside0 (Kd.V (Kd.slice 3 (Kd.int .i64)) 24 w' w.heap.size (fun k_ => some k_ ≠ (v371 : Value).ownBlock) (.slice Ao14 t358.length co14) t358) ∧ Aside0 (Kd.R (Kd.int .i64) 3 w' w.heap.size (fun _ => True) v371 t369) ∧ Aside0 (Below w.heap.size w w'))
            case atStart => exact ⟨(0), (0), (by first | rfl | (simp; done) | (simp [*]; done)), (by first | rfl | (simp; done) | (simp [*]; done)), H', ⟨Nat.le_refl _⟩, ⟨by (with_reducible repeat (first | apply Kd.V_alloc | apply Kd.V_drewN | apply Kd.V_drew)); exact HO_5.out⟩, ⟨by (with_reducible repeat (first | apply Kd.R_alloc | apply Kd.R_drewN | apply Kd.R_drew)); exact HO_10.out⟩, ⟨by repeat (first | (with_reducible first | exact HB.out | apply below_alloc | apply pw_below_drewN | apply below_drew1) | exact HB.out)⟩⟩
            case round =>
             clear H'
             try clear c1
             try clear c2
             try clear p2
             try clear c3
             try clear p3
             try clear q3
             try clear hx3
             try clear c4
             try clear c5
             try clear c6
             try clear p6
             try clear c8
             try clear c9
             try clear c10
             try clear c11
             try clear c14
             try clear c15
             try clear c16
             try clear c17
             try clear c18
             try clear c19
             try clear c21
             try clear c21b0
             try clear c21b1
             try clear c21b2
             try clear c22
             try clear c23
             try clear c24
             try clear c24b0
             try clear c24b1
             try clear c24b2
             try clear c28
             try clear c29
             try clear c29b0
             try clear c29b1
             try clear c29b2
             try clear c34
             try clear c34b0
             try clear c34b1
             try clear c36
             try clear c36b0
             try clear c36b1
             try clear c36b2
             try clear c38
             try clear p38
             try clear q38
             try clear hx38
             try clear c42
             try clear c43
             try clear c49
             try clear c50
             try clear c50b0
             try clear c50b1
             try clear c50b2
             try clear p64
             try clear c66
             try clear c67
             try clear c67b0
             try clear c67b1
             try clear c67b2
             try clear c93
             try clear c95
             try clear c98
             try clear c101
             try clear c103
             try clear c103b0
             try clear c104
             try clear c104b0
             try clear c105
             try clear c105b0
             try clear c106
             try clear c106b0
             try clear c107
             try clear c107b0
             try clear c108
             try clear c108b0
             try clear c109
             try clear c109b0
             try clear c111
             try clear hx385_0
             try clear hx386_0
             try clear hx387_0
             try clear p2
             try clear p3
             try clear p38
             try clear p385
             try clear p386
             try clear p387
             try clear p6
             try clear p64
             try clear q3
             try clear q38
             try clear q385
             try clear q386
             try clear q387
             obtain ⟨x20_3, x157_3, rfl, rfl, HA, HK3, HO_5, HO_10, HB⟩ := hrel
             cases gk with
             | zero => exact absurd HA.out (by simp [laws_FnPlacingsOrRows.l1])
             | succ k3 =>
              have H := HA.out
              clear HA
              simp only [laws_FnPlacingsOrRows.l1] at H
              by_cases c112 : x157_3 < (t358.length : Int)
              · rw [if_pos c112] at H
                have c112b0 : decide (x157_3 < (t358.length : Int)) = true := decide_eq_true c112
                clear c112
                (first | rw [c112b0] | (simp only [i64_w, i32_w]; rw [c112b0]) | skip)
                have H' := Aside0.mk H
                clear H
                obtain ⟨Ao113, co113, eo113⟩ := Kd.R_slice HO_10.out
                subst eo113
                go_wp2
                go_loopg [22, 162] k3 (fun kq v22 v162 w' => ∃ (x22_4 : Bool) (x162_4 : Int), v22 = .bool x22_4 ∧ v162 = .int .i64 x162_4 ∧ Aside0 (laws_FnPlacingsOrRows.l2 kq l1 t358 t369 x20_3 x157_3 x22_4 (t358.length : Int) x157_3 t369 (t369.length : Int) x162_4 = some r) ∧ Aside0 (kq ≤ k3) ∧ Aside0 (Kd.V (Kd.slice 3 (Kd.int .i64)) 24 w' w.heap.size (fun k_ => some k_ ≠ ((.slice Ao113 t369.length co113) : Value).ownBlock ∧ some k_ ≠ ((.slice Ao113 t369.length co113) : Value).ownBlock) (.slice Ao14 t358.length co14) t358) ∧ Aside0 (Kd.R (Kd.int .i64) 3 w' w.heap.size (fun _ => True) (.slice Ao113 t369.length co113) t369) ∧ Aside0 (Kd.R (Kd.int .i64) 3 w' w.heap.size (fun _ => True) (.slice Ao113 t369.length co113) t369) ∧ Aside0 (Below w.heap.size w w'))
                case atStart => exact ⟨(false), (0), (by first | rfl | (simp; done) | (simp [*]; done)), (by first | rfl | (simp; done) | (simp [*]; done)), H', ⟨Nat.le_refl _⟩, ⟨by (with_reducible repeat (first | apply Kd.V_alloc | apply Kd.V_drewN | apply Kd.V_drew)); exact Kd.V_mono HO_5.out (fun _ hk => ⟨hk, hk⟩)⟩, ⟨by (with_reducible repeat (first | apply Kd.R_alloc | apply Kd.R_drewN | apply Kd.R_drew)); exact HO_10.out⟩, ⟨by (with_reducible repeat (first | apply Kd.R_alloc | apply Kd.R_drewN | apply Kd.R_drew)); exact HO_10.out⟩, ⟨by repeat (first | (with_reducible first | exact HB.out | apply below_alloc | apply pw_below_drewN | apply below_drew1) | exact HB.out)⟩⟩
                case round =>
                 clear H'
                 try clear c1
                 try clear c2
                 try clear p2
                 try clear c3
                 try clear p3
                 try clear q3
                 try clear hx3
                 try clear c4
                 try clear c5
                 try clear c6
                 try clear p6
                 try clear c8
                 try clear c9
                 try clear c10
                 try clear c11
                 try clear c14
                 try clear c15
                 try clear c16
                 try clear c17
                 try clear c18
                 try clear c19
                 try clear c21
                 try clear c21b0
                 try clear c21b1
                 try clear c21b2
                 try clear c22
                 try clear c23
                 try clear c24
                 try clear c24b0
                 try clear c24b1
                 try clear c24b2
                 try clear c28
                 try clear c29
                 try clear c29b0
                 try clear c29b1
                 try clear c29b2
                 try clear c34
                 try clear c34b0
                 try clear c34b1
                 try clear c36
                 try clear c36b0
                 try clear c36b1
                 try clear c36b2
                 try clear c38
                 try clear p38
                 try clear q38
                 try clear hx38
                 try clear c42
                 try clear c43
                 try clear c49
                 try clear c50
                 try clear c50b0
                 try clear c50b1
                 try clear c50b2
                 try clear p64
                 try clear c66
                 try clear c67
                 try clear c67b0
                 try clear c67b1
                 try clear c67b2
                 try clear c93
                 try clear c95
                 try clear c98
                 try clear c101
                 try clear c103
                 try clear c103b0
                 try clear c104
                 try clear c104b0
                 try clear c105
                 try clear c105b0
                 try clear c106
                 try clear c106b0
                 try clear c107
                 try clear c107b0
                 try clear c108
                 try clear c108b0
                 try clear c109
                 try clear c109b0
                 try clear c111
                 try clear c112
                 try clear c112b0
                 try clear hx385_0
                 try clear hx386_0
                 try clear hx387_0
                 try clear p2
                 try clear p3
                 try clear p38
                 try clear p385
                 try clear p386
                 try clear p387
                 try clear p6
                 try clear p64
                 try clear q3
                 try clear q38
                 try clear q385
                 try clear q386
                 try clear q387
                 obtain ⟨x22_4, x162_4, rfl, rfl, HA, HK4, HO_5, HO_10, HO_160, HB⟩ := hrel
                 cases gk with
                 | zero => exact absurd HA.out (by simp [laws_FnPlacingsOrRows.l2])
                 | succ k4 =>
                  have H := HA.out
                  clear HA
                  simp only [laws_FnPlacingsOrRows.l2] at H
                  by_cases c114 : x162_4 < (t369.length : Int)
                  · rw [if_pos c114] at H
                    have c114b0 : decide (x162_4 < (t369.length : Int)) = true := decide_eq_true c114
                    clear c114
                    by_cases c115 : 0 ≤ x162_4
                    · rw [if_pos c115] at H
                      have c115b0 : decide (0 ≤ x162_4) = true := decide_eq_true c115
                      clear c115
                      by_cases c116 : x162_4 < (t369.length : Int)
                      · rw [if_pos c116] at H
                        have c116b0 : decide (x162_4 < (t369.length : Int)) = true := decide_eq_true c116
                        clear c116
                        by_cases c117 : x22_4 = true
                        · subst c117
                          have H1 : (laws_FnPlacingsOrRows.l2 k4 l1 t358 t369 x20_3 x157_3 true (t358.length : Int) x157_3 t369 (t369.length : Int) (wrap64 (x162_4 + 1))) = some r := by rw [if_pos rfl] at H; exact H
                          clear H
                          have H := H1
                          clear H1
                          have H' := Aside0.mk H
                          clear H
                          have p388 : 0 ≤ (x162_4 : Int) := of_decide_eq_true (by first | (with_reducible assumption) | assumption)
                          have q388 : x162_4 < (t369.length : Int) := of_decide_eq_true (by first | (with_reducible assumption) | assumption)
                          obtain ⟨ad388, e388, hx388_0⟩ := Kd.at_int (Kd.R_reads' HO_160.out).2.2 x162_4 p388 q388
                          cases e388
                          replace p388 := eq_true p388
                          replace q388 := eq_true q388
                          go_wp2
                          go_roundg k4
                          case measure => have := HJ11.out; have := HJ93.out; have := HK3.out; have := HK4.out; omega
                          case rel => exact ⟨(true), (wrap64 (x162_4 + 1)), (by first | rfl | (simp; done) | (simp [*]; done)), (by first | rfl | (simp; done) | (simp [*]; done)), H', ⟨by have := HJ11.out; have := HJ93.out; have := HK3.out; have := HK4.out; omega⟩, ⟨by (with_reducible repeat (first | apply Kd.V_alloc | apply Kd.V_drewN | apply Kd.V_drew)); exact HO_5.out⟩, ⟨by (with_reducible repeat (first | apply Kd.R_alloc | apply Kd.R_drewN | apply Kd.R_drew)); exact HO_10.out⟩, ⟨by (with_reducible repeat (first | apply Kd.R_alloc | apply Kd.R_drewN | apply Kd.R_drew)); exact HO_160.out⟩, ⟨by repeat (first | (with_reducible first | exact HB.out | apply below_alloc | apply pw_below_drewN | apply below_drew1) | exact HB.out)⟩⟩
                        · replace c117 := Bool.eq_false_iff.mpr c117
                          subst c117
                          have H1 : (if 0 ≤ (rd t369 x162_4) then (if (rd t369 x162_4) < (t358.length : Int) then (if 0 ≤ x157_3 then (if x157_3 < ((rd_L1 t358 (rd t369 x162_4)).length : Int) then (laws_FnPlacingsOrRows.l2 k4 l1 t358 t369 x20_3 x157_3 (decide ((rd (rd_L1 t358 (rd t369 x162_4)) x157_3) > 0)) (t358.length : Int) x157_3 t369 (t369.length : Int) (wrap64 (x162_4 + 1))) else (none)) else (none)) else (none)) else (none)) = some r := by rw [if_neg (show ¬ (false = true) by decide)] at H; exact H
                          clear H
                          have H := H1
                          clear H1
                          by_cases c118 : 0 ≤ (rd t369 x162_4)
                          · rw [if_pos c118] at H
                            have c118b0 : decide (0 ≤ (rd t369 x162_4)) = true := decide_eq_true c118
                            clear c118
                            by_cases c119 : (rd t369 x162_4) < (t358.length : Int)
                            · rw [if_pos c119] at H
                              have c119b0 : decide ((rd t369 x162_4) < (t358.length : Int)) = true := decide_eq_true c119
                              clear c119
                              by_cases c120 : 0 ≤ x157_3
                              · rw [if_pos c120] at H
                                have c120b0 : decide (0 ≤ x157_3) = true := decide_eq_true c120
                                clear c120
                                by_cases c121 : x157_3 < ((rd_L1 t358 (rd t369 x162_4)).length : Int)
                                · rw [if_pos c121] at H
                                  have c121b0 : decide (x157_3 < ((rd_L1 t358 (rd t369 x162_4)).length : Int)) = true := decide_eq_true c121
                                  clear c121
                                  have H' := Aside0.mk H
                                  clear H
                                  have p388 : 0 ≤ (x162_4 : Int) := of_decide_eq_true (by first | (with_reducible assumption) | assumption)
                                  have q388 : x162_4 < (t369.length : Int) := of_decide_eq_true (by first | (with_reducible assumption) | assumption)
                                  obtain ⟨ad388, e388, hx388_0⟩ := Kd.at_int (Kd.R_reads' HO_160.out).2.2 x162_4 p388 q388
                                  cases e388
                                  replace p388 := eq_true p388
                                  replace q388 := eq_true q388
                                  have p389 : 0 ≤ ((rd t369 x162_4) : Int) := of_decide_eq_true (by first | (with_reducible assumption) | assumption)
                                  have q389 : (rd t369 x162_4) < (t358.length : Int) := of_decide_eq_true (by first | (with_reducible assumption) | assumption)
                                  obtain ⟨ad389, A389_0, c389_0, e389, hx389_0, hl389_0, hi389_0⟩ := at_L1 (Kd.V_reads' HO_5.out).2.2 (rd t369 x162_4) p389 q389
                                  cases e389
                                  obtain ⟨ce389, hce389, hMe389, hcc389⟩ := Kd.V_get HO_5.out [] (rd t369 x162_4) p389 (by first | exact q389 | exact of_decide_eq_true (by first | (with_reducible assumption) | assumption) | (have e_ := (Kd.V_reads' HO_5.out).1; omega))
                                  obtain ⟨ua389_0, uc389_0, rfl, ul389_0, ge389_0⟩ := Kd.FK_slice_open hMe389
                                  have hv389_0 := hcc389 0 _ rfl
                                  rw [Nat.add_zero, show ((Kd.slice 3 (Kd.int .i64))).sz = 1 from rfl, Nat.mul_one] at hv389_0
                                  replace hv389_0 := Option.some.inj (hv389_0.symm.trans hx389_0)
                                  injection hv389_0 with hva_ hvn_ hvc_
                                  rw [hva_] at ge389_0
                                  rw [hvc_] at ul389_0
                                  have HL389_0 := Aside0.mk (show Kd.V (Kd.int .i64) 3 _ w.heap.size _ _ (rd_L1 t358 (rd t369 x162_4)) from Kd.V_mk ul389_0 ge389_0)
                                  clear hva_ hvn_ hvc_ ge389_0 ul389_0
                                  clear hcc389 hce389
                                  have HR389_0 := Aside0.mk hi389_0
                                  have HC389_0 := Aside0.mk hl389_0
                                  clear hi389_0 hl389_0
                                  replace p389 := eq_true p389
                                  replace q389 := eq_true q389
                                  have p390 : 0 ≤ (x157_3 : Int) := of_decide_eq_true (by first | (with_reducible assumption) | assumption)
                                  have q390 : x157_3 < ((rd_L1 t358 (rd t369 x162_4)).length : Int) := of_decide_eq_true (by first | (with_reducible assumption) | assumption)
                                  obtain ⟨ad390, e390, hx390_0⟩ := Kd.at_int (by repeat (first | (with_reducible exact HR389_0.out) | (with_reducible refine Kd.C_alloc ?_ _) | (with_reducible refine Kd.C_drewN ?_ _) | (with_reducible refine Kd.C_drew ?_) | exact HR389_0.out)) x157_3 p390 q390
                                  cases e390
                                  replace p390 := eq_true p390
                                  replace q390 := eq_true q390
                                  go_wp2
                                  go_roundg k4
                                  case measure => have := HJ11.out; have := HJ93.out; have := HK3.out; have := HK4.out; omega
                                  case rel => exact ⟨(decide ((rd (rd_L1 t358 (rd t369 x162_4)) x157_3) > 0)), (wrap64 (x162_4 + 1)), (by first | rfl | (simp; done) | (simp [*]; done)), (by first | rfl | (simp; done) | (simp [*]; done)), H', ⟨by have := HJ11.out; have := HJ93.out; have := HK3.out; have := HK4.out; omega⟩, ⟨by (with_reducible repeat (first | apply Kd.V_alloc | apply Kd.V_drewN | apply Kd.V_drew)); exact HO_5.out⟩, ⟨by (with_reducible repeat (first | apply Kd.R_alloc | apply Kd.R_drewN | apply Kd.R_drew)); exact HO_10.out⟩, ⟨by (with_reducible repeat (first | apply Kd.R_alloc | apply Kd.R_drewN | apply Kd.R_drew)); exact HO_160.out⟩, ⟨by repeat (first | (with_reducible first | exact HB.out | apply below_alloc | apply pw_below_drewN | apply below_drew1) | exact HB.out)⟩⟩
                                · rw [if_neg c121] at H
                                  exact absurd H (by simp)
                              · rw [if_neg c120] at H
                                exact absurd H (by simp)
                            · rw [if_neg c119] at H
                              exact absurd H (by simp)
                          · rw [if_neg c118] at H
                            exact absurd H (by simp)
                      · rw [if_neg c116] at H
                        exact absurd H (by simp)
                    · rw [if_neg c115] at H
                      exact absurd H (by simp)
                  · rw [if_neg c114] at H
                    have c114b0 : decide (x162_4 < (t369.length : Int)) = false := decide_eq_false c114
                    clear c114
                    by_cases c122 : x22_4 = true
                    · subst c122
                      have H1 : (laws_FnPlacingsOrRows.l1 k4 l1 t358 t369 (wrap64 (x20_3 + 1)) (t358.length : Int) (wrap64 (x157_3 + 1))) = some r := by rw [if_pos rfl] at H; exact H
                      clear H
                      have H := H1
                      clear H1
                      have H' := Aside0.mk H
                      clear H
                      go_wp2
                      go_roundg k4
                      case measure => have := HJ11.out; have := HJ93.out; have := HK3.out; have := HK4.out; omega
                      case rel => exact ⟨(wrap64 (x20_3 + 1)), (wrap64 (x157_3 + 1)), (by first | rfl | (simp; done) | (simp [*]; done)), (by first | rfl | (simp; done) | (simp [*]; done)), H', ⟨by have := HJ11.out; have := HJ93.out; have := HK3.out; have := HK4.out; omega⟩, ⟨by (with_reducible repeat (first | apply Kd.V_alloc | apply Kd.V_drewN | apply Kd.V_drew)); exact Kd.V_mono HO_5.out (fun _ hk => hk.1)⟩, ⟨by (with_reducible repeat (first | apply Kd.R_alloc | apply Kd.R_drewN | apply Kd.R_drew)); exact HO_10.out⟩, ⟨by repeat (first | (with_reducible first | exact HB.out | apply below_alloc | apply pw_below_drewN | apply below_drew1) | exact HB.out)⟩⟩
                    · replace c122 := Bool.eq_false_iff.mpr c122
                      subst c122
                      have H1 : (laws_FnPlacingsOrRows.l1 k4 l1 t358 t369 x20_3 (t358.length : Int) (wrap64 (x157_3 + 1))) = some r := by rw [if_neg (show ¬ (false = true) by decide)] at H; exact H
                      clear H
                      have H := H1
                      clear H1
                      have H' := Aside0.mk H
                      clear H
                      go_wp2
                      go_roundg k4
                      case measure => have := HJ11.out; have := HJ93.out; have := HK3.out; have := HK4.out; omega
                      case rel => exact ⟨(x20_3), (wrap64 (x157_3 + 1)), (by first | rfl | (simp; done) | (simp [*]; done)), (by first | rfl | (simp; done) | (simp [*]; done)), H', ⟨by have := HJ11.out; have := HJ93.out; have := HK3.out; have := HK4.out; omega⟩, ⟨by (with_reducible repeat (first | apply Kd.V_alloc | apply Kd.V_drewN | apply Kd.V_drew)); exact Kd.V_mono HO_5.out (fun _ hk => hk.1)⟩, ⟨by (with_reducible repeat (first | apply Kd.R_alloc | apply Kd.R_drewN | apply Kd.R_drew)); exact HO_10.out⟩, ⟨by repeat (first | (with_reducible first | exact HB.out | apply below_alloc | apply pw_below_drewN | apply below_drew1) | exact HB.out)⟩⟩
              · rw [if_neg c112] at H
                have c112b0 : decide (x157_3 < (t358.length : Int)) = false := decide_eq_false c112
                clear c112
                (first | rw [c112b0] | (simp only [i64_w, i32_w]; rw [c112b0]) | skip)
                by_cases c123 : x20_3 ≥ (t369.length : Int)
                · rw [if_pos c123] at H
                  have c123b0 : decide ((t369.length : Int) ≤ x20_3) = true := decide_eq_true c123
                  clear c123
                  obtain rfl := Option.some.inj H
                  obtain ⟨Ao124, co124, eo124⟩ := Kd.R_slice HO_10.out
                  subst eo124
                  go_wp2
                  go_ret
                  exact ⟨by first | rfl | (simp [errW_none, errW_some] <;> rfl) | (simp [*, errW_none, errW_some] <;> rfl), by repeat (first | (with_reducible first | exact HB.out | apply below_alloc | apply pw_below_drewN | apply below_drew1) | exact HB.out)⟩
                · rw [if_neg c123] at H
                  have c123b0 : decide ((t369.length : Int) ≤ x20_3) = false := decide_eq_false c123
                  clear c123
                  have H' := Aside0.mk H
                  clear H
                  obtain ⟨Ao125, co125, eo125⟩ := Kd.R_slice HO_10.out
                  subst eo125
                  go_wp2
                  go_meet
                  case rel => exact ⟨_, H', ⟨by have := HJ11.out; have := HJ93.out; have := HK3.out; first | omega | exact Nat.le_refl _⟩, ⟨by repeat (first | (with_reducible first | exact HB.out | apply below_alloc | apply pw_below_drewN | apply below_drew1) | exact HB.out)⟩⟩
          · replace c111 := Bool.eq_false_iff.mpr c111
            subst c111
            have H1 : (laws_FnPlacingsOrRows.j6 kj93 l1) = some r := by rw [if_neg (show ¬ (false = true) by decide)] at H; exact H
            clear H
            have H := H1
            clear H1
            have H' := Aside0.mk H
            clear H
            go_wp2
            go_meet
            case rel => exact ⟨_, H', ⟨by have := HJ11.out; have := HJ93.out; first | omega | exact Nat.le_refl _⟩, ⟨by repeat (first | (with_reducible first | exact HB.out | apply below_alloc | apply pw_below_drewN | apply below_drew1) | exact HB.out)⟩⟩
         case rest => as_aux_lemma =>
          clear HC110
          try clear c1
          try clear c2
          try clear p2
          try clear c3
          try clear p3
          try clear q3
          try clear hx3
          try clear c4
          try clear c5
          try clear c6
          try clear p6
          try clear c8
          try clear c9
          try clear c10
          try clear c11
          try clear c12
          try clear c14
          try clear c15
          try clear c16
          try clear c17
          try clear c18
          try clear c19
          try clear c21
          try clear c21b0
          try clear c21b1
          try clear c21b2
          try clear c22
          try clear c23
          try clear c24
          try clear c24b0
          try clear c24b1
          try clear c24b2
          try clear c28
          try clear c29
          try clear c29b0
          try clear c29b1
          try clear c29b2
          try clear c34
          try clear c34b0
          try clear c34b1
          try clear c36
          try clear c36b0
          try clear c36b1
          try clear c36b2
          try clear c38
          try clear p38
          try clear q38
          try clear hx38
          try clear p39
          try clear q39
          try clear hx39
          try clear c42
          try clear c43
          try clear c49
          try clear c50
          try clear c50b0
          try clear c50b1
          try clear c50b2
          try clear p64
          try clear c66
          try clear c67
          try clear c67b0
          try clear c67b1
          try clear c67b2
          try clear c93
          try clear c95
          try clear c98
          try clear c101
          try clear c103
          try clear c103b0
          try clear c104
          try clear c104b0
          try clear c105
          try clear c105b0
          try clear c106
          try clear c106b0
          try clear c107
          try clear c107b0
          try clear c108
          try clear c108b0
          try clear c109
          try clear c109b0
          try clear c111
          try clear c112
          try clear c112b0
          try clear c114
          try clear c114b0
          try clear c115
          try clear c115b0
          try clear c116
          try clear c116b0
          try clear c117
          try clear c118
          try clear c118b0
          try clear c119
          try clear c119b0
          try clear c120
          try clear c120b0
          try clear c121
          try clear c121b0
          try clear c122
          try clear c123
          try clear c123b0
          try clear hx385_0
          try clear hx386_0
          try clear hx387_0
          try clear hx388_0
          try clear hx389_0
          try clear hx390_0
          try clear p2
          try clear p3
          try clear p38
          try clear p385
          try clear p386
          try clear p387
          try clear p388
          try clear p389
          try clear p390
          try clear p6
          try clear p64
          try clear q3
          try clear q38
          try clear q385
          try clear q386
          try clear q387
          try clear q388
          try clear q389
          try clear q390
          obtain ⟨kq, HA, HJ109, HB⟩ := hcut
          cases kq with
          | zero => exact absurd HA.out (by simp [laws_FnPlacingsOrRows.j6])
          | succ kj109 =>
           have H := HA.out
           clear HA
           simp only [laws_FnPlacingsOrRows.j6] at H
           replace H := Option.bind_eq_some_iff.mp H
           obtain ⟨t391, A1260, H⟩ := H
           replace H : ((impl_PlacingTable.f kj109 t391).bind fun bt394 => ((spec_PlacingTable.f kj109 t391).bind fun bt398 => (if (bt394.2 != bt398.2) = true then (laws_FnPlacingsOrRows.j7 kj109 t391 bt394.1 bt394.2 true) else ((laws_yRows.f kj109 bt394.1 bt398.1).bind fun t402 => (if t402 = true then ((impl_IsPlacing.f kj109 t391).bind fun t403 => (laws_FnPlacingsOrRows.j7 kj109 t391 bt394.1 bt394.2 (bt394.2 != t403))) else (laws_FnPlacingsOrRows.j7 kj109 t391 bt394.1 bt394.2 true)))))) = some r := H
           have A126 := Aside0.mk A1260
           clear A1260
           replace H := Option.bind_eq_some_iff.mp H
           obtain ⟨⟨t394, t395⟩, A1270, H⟩ := H
           replace H : ((spec_PlacingTable.f kj109 t391).bind fun bt398 => (if (t395 != bt398.2) = true then (laws_FnPlacingsOrRows.j7 kj109 t391 t394 t395 true) else ((laws_yRows.f kj109 t394 bt398.1).bind fun t402 => (if t402 = true then ((impl_IsPlacing.f kj109 t391).bind fun t403 => (laws_FnPlacingsOrRows.j7 kj109 t391 t394 t395 (t395 != t403))) else (laws_FnPlacingsOrRows.j7 kj109 t391 t394 t395 true))))) = some r := H
           have A127 := Aside0.mk A1270
           clear A1270
           replace H := Option.bind_eq_some_iff.mp H
           obtain ⟨⟨t398, t399⟩, A1280, H⟩ := H
           replace H : (if (t395 != t399) = true then (laws_FnPlacingsOrRows.j7 kj109 t391 t394 t395 true) else ((laws_yRows.f kj109 t394 t398).bind fun t402 => (if t402 = true then ((impl_IsPlacing.f kj109 t391).bind fun t403 => (laws_FnPlacingsOrRows.j7 kj109 t391 t394 t395 (t395 != t403))) else (laws_FnPlacingsOrRows.j7 kj109 t391 t394 t395 true)))) = some r := H
           have A128 := Aside0.mk A1280
           clear A1280
           have HC129 := Aside0.mk H
           clear H
           go_upto_region 40 with (first | ((with_reducible refine gate_callee (f := 23) rfl ?_); refine goesL_ (some 187) rfl rfl Tryd.func23 (by kernel_rfl) rfl #[.slice A1 l1.length c1] rfl (by (try simp only [List.map_toArray, List.map_cons, List.map_nil]); first | done | rfl | (simp only [List.length_drop, List.length_take]; rfl)) ?_; (with_reducible refine (spec_DrawPlacingTable.calls kj109 _ _ l1 t391 _ ?side1 ?side2 A126.out).mono ?_); (case side1 => repeat (first | exact (Kd.C_below HR1.out HB.out) | (with_reducible refine Kd.C_alloc ?_ _) | (with_reducible refine Kd.C_drewN ?_ _) | (with_reducible refine Kd.C_drew ?_))); (case side2 => exact HC1.out); rintro e w130 ⟨v392, rfl, ho0, hb⟩; refine ⟨_, rfl, ?_⟩; have n0_ := Aside0.mk (Kd.R_lower ho0 (below_size (by repeat (first | (with_reducible first | exact HB.out | apply below_alloc | apply pw_below_drewN | apply below_drew1) | exact HB.out)))); have n1_ := Aside0.mk (below_step (by repeat (first | (with_reducible first | exact HB.out | apply below_alloc | apply pw_below_drewN | apply below_drew1) | exact HB.out)) hb); clear HB; have HO393 := n0_; have HB := n1_; clear n0_ n1_; (try clear hb); (try clear hb2); (try clear hk); (try clear hi); (try clear ho0); obtain ⟨Ao131, co131, eo131⟩ := Kd.R_slice HO393.out; subst eo131) | ((with_reducible refine gate_callee (f := 24) rfl ?_); refine goesL_ (some 190) rfl rfl Tryd.func24 (by kernel_rfl) rfl #[.slice Ao131 t391.length co131] rfl (by (try simp only [List.map_toArray, List.map_cons, List.map_nil]); first | done | rfl | (simp only [List.length_drop, List.length_take]; rfl)) ?_; (with_reducible refine (impl_PlacingTable.calls kj109 _ _ t391 t394 t395 _ ?side1 ?side2 A127.out).mono ?_); (case side1 => repeat (first | exact (Kd.R_reads' HO393.out).2.2 | (with_reducible refine Kd.C_alloc ?_ _) | (with_reducible refine Kd.C_drewN ?_ _) | (with_reducible refine Kd.C_drew ?_))); (case side2 => exact (Kd.R_reads' HO393.out).2.1); rintro e w132 ⟨v396, rfl, ho0, hb⟩; refine ⟨_, rfl, ?_⟩; have n0_ := Aside0.mk (Kd.R_below (by (with_reducible repeat (first | apply Kd.R_alloc | apply Kd.R_drewN | apply Kd.R_drew)); exact HO393.out) hb); have n1_ := Aside0.mk (Kd.S_lower (Kd.S_new' ho0 (Kd.R_lt (by (with_reducible repeat (first | apply Kd.R_alloc | apply Kd.R_drewN | apply Kd.R_drew)); exact HO393.out))) (below_size (by repeat (first | (with_reducible first | exact HB.out | apply below_alloc | apply pw_below_drewN | apply below_drew1) | exact HB.out)))); have n2_ := Aside0.mk (below_step (by repeat (first | (with_reducible first | exact HB.out | apply below_alloc | apply pw_below_drewN | apply below_drew1) | exact HB.out)) hb); clear HO393; clear HB; have HO393 := n0_; have HO397 := n1_; have HB := n2_; clear n0_ n1_ n2_; (try clear hb); (try clear hb2); (try clear hk); (try clear hi); (try clear ho0)) | ((with_reducible refine gate_callee (f := 25) rfl ?_); refine goesL_ (some 195) rfl rfl Tryd.func25 (by kernel_rfl) rfl #[.slice Ao131 t391.length co131] rfl (by (try simp only [List.map_toArray, List.map_cons, List.map_nil]); first | done | rfl | (simp only [List.length_drop, List.length_take]; rfl)) ?_; (with_reducible refine (spec_PlacingTable.calls kj109 _ _ t391 t398 t399 _ ?side1 ?side2 A128.out).mono ?_); (case side1 => repeat (first | exact (Kd.R_reads' HO393.out).2.2 | (with_reducible refine Kd.C_alloc ?_ _) | (with_reducible refine Kd.C_drewN ?_ _) | (with_reducible refine Kd.C_drew ?_))); (case side2 => exact (Kd.R_reads' HO393.out).2.1); rintro e w133 ⟨v400, rfl, ho0, hb⟩; refine ⟨_, rfl, ?_⟩; have n0_ := Aside0.mk (Kd.R_below (by (with_reducible repeat (first | apply Kd.R_alloc | apply Kd.R_drewN | apply Kd.R_drew)); exact HO393.out) hb); have n1_ := Aside0.mk (Kd.S_elder' (by (with_reducible repeat (first | apply Kd.S_alloc | apply Kd.S_drewN | apply Kd.S_drew)); exact HO397.out) (Kd.S_base ho0) hb); have n2_ := Aside0.mk (Kd.S_lower (Kd.S_new' (Kd.S_new' ho0 (Kd.R_lt (by (with_reducible repeat (first | apply Kd.R_alloc | apply Kd.R_drewN | apply Kd.R_drew)); exact HO393.out))) (Kd.S_lt (by (with_reducible repeat (first | apply Kd.S_alloc | apply Kd.S_drewN | apply Kd.S_drew)); exact HO397.out))) (below_size (by repeat (first | (with_reducible first | exact HB.out | apply below_alloc | apply pw_below_drewN | apply below_drew1) | exact HB.out)))); have n3_ := Aside0.mk (below_step (by repeat (first | (with_reducible first | exact HB.out | apply below_alloc | apply pw_below_drewN | apply below_drew1) | exact HB.out)) hb); clear HO393; clear HO397; clear HB; have HO393 := n0_; have HO397 := n1_; have HO401 := n2_; have HB := n3_; clear n0_ n1_ n2_ n3_; (try clear hb); (try clear hb2); (try clear hk); (try clear hi); (try clear ho0)))
           (try simp only [Act.put, List.setIfInBounds_toArray, List.set_cons_zero, List.set_cons_succ])
           go_cut [212] (fun v212 wc => ∃ (kq : Nat) (x212_128 : Bool), v212 = .bool x212_128 ∧ Aside0 (laws_FnPlacingsOrRows.j7 kq t391 t394 t395 x212_128 = some r) ∧ Aside0 (kq ≤ kj109) ∧ Aside0 (Kd.R (Kd.int .i64) 3 wc w.heap.size (fun _ => True) (.slice Ao131 t391.length co131) t391) ∧ Aside0 (Kd.S (Kd.slice 3 (Kd.int .i64)) 24 wc w.heap.size (fun k_ => some k_ ≠ ((.slice Ao131 t391.length co131) : Value).ownBlock) v396 t394) ∧ Aside0 (Below w.heap.size w wc))
           case first => as_aux_lemma =>
            have H := HC129.out
            clear HC129
            by_cases c134 : (t395 != t399) = true
            · rw [if_pos c134] at H
              have c134b0 : (t395 != t399) = true := c134
              (try (have c134b1 : decide (t395 = t399) = false := by simpa using c134))
              (try (have c134b2 : (t395 == t399) = false := by simpa using c134))
              (try (have c134b3 : ¬ (t395 = t399) := by simpa using c134))
              clear c134
              (first | rw [c134b0] | (simp only [i64_w, i32_w]; rw [c134b0]) | skip)
              have H' := Aside0.mk H
              clear H
              go_wp2
              go_meet
              case rel => exact ⟨_, (true), (by first | rfl | (simp; done) | (simp [*]; done)), H', ⟨by have := HJ11.out; have := HJ93.out; have := HJ109.out; first | omega | exact Nat.le_refl _⟩, ⟨by (with_reducible repeat (first | apply Kd.R_alloc | apply Kd.R_drewN | apply Kd.R_drew)); exact HO393.out⟩, ⟨by (with_reducible repeat (first | apply Kd.S_alloc | apply Kd.S_drewN | apply Kd.S_drew)); exact Kd.S_mono HO397.out (fun _ hk => hk.1.2)⟩, ⟨by repeat (first | (with_reducible first | exact HB.out | apply below_alloc | apply pw_below_drewN | apply below_drew1) | exact HB.out)⟩⟩
            · rw [if_neg c134] at H
              have c134b0 : (t395 != t399) = false := by simpa using c134
              (try (have c134b1 : decide (t395 = t399) = true := by simpa using c134))
              (try (have c134b2 : (t395 == t399) = true := by simpa using c134))
              clear c134
              (first | rw [c134b0] | (simp only [i64_w, i32_w]; rw [c134b0]) | skip)
              replace H := Option.bind_eq_some_iff.mp H
              obtain ⟨t402, A1350, H⟩ := H
              replace H : (if t402 = true then ((impl_IsPlacing.f kj109 t391).bind fun t403 => (laws_FnPlacingsOrRows.j7 kj109 t391 t394 t395 (t395 != t403))) else (laws_FnPlacingsOrRows.j7 kj109 t391 t394 t395 true)) = some r := H
              have A135 := Aside0.mk A1350
              clear A1350
              by_cases c136 : t402 = true
              · subst c136
                have H1 : ((impl_IsPlacing.f kj109 t391).bind fun t403 => (laws_FnPlacingsOrRows.j7 kj109 t391 t394 t395 (t395 != t403))) = some r := by rw [if_pos rfl] at H; exact H
                clear H
                have H := H1
                clear H1
                replace H := Option.bind_eq_some_iff.mp H
                obtain ⟨t403, A1370, H⟩ := H
                replace H : (laws_FnPlacingsOrRows.j7 kj109 t391 t394 t395 (t395 != t403)) = some r := H
                have A137 := Aside0.mk A1370
                clear A1370
                have H' := Aside0.mk H
                clear H
                obtain ⟨Ao138, co138, eo138⟩ := Kd.S_slice HO397.out
                subst eo138
                obtain ⟨Ao139, co139, eo139⟩ := Kd.S_slice HO401.out
                subst eo139
                go_wp2_with (first | (go_at_call 26; (with_reducible refine (laws_yRows.calls kj109 _ _ t394 _ _ t398 true _ ?side1 ?side2 ?side3 ?side4 A135.out).mono ?_); (case side1 => repeat (first | exact (Kd.S_reads' HO397.out).2.2 | (with_reducible refine Kd.C_alloc ?_ _) | (with_reducible refine Kd.C_drewN ?_ _) | (with_reducible refine Kd.C_drew ?_))); (case side2 => exact (Kd.S_reads' HO397.out).2.1); (case side3 => repeat (first | exact (Kd.S_reads' HO401.out).2.2 | (with_reducible refine Kd.C_alloc ?_ _) | (with_reducible refine Kd.C_drewN ?_ _) | (with_reducible refine Kd.C_drew ?_))); (case side4 => exact (Kd.S_reads' HO401.out).2.1); rintro e w' ⟨rfl, ⟨nd, rfl⟩⟩) | (go_at_call 22; (with_reducible refine (impl_IsPlacing.calls kj109 _ _ t391 t403 _ ?side1 ?side2 A137.out).mono ?_); (case side1 => repeat (first | exact (Kd.R_reads' HO393.out).2.2 | (with_reducible refine Kd.C_alloc ?_ _) | (with_reducible refine Kd.C_drewN ?_ _) | (with_reducible refine Kd.C_drew ?_))); (case side2 => exact (Kd.R_reads' HO393.out).2.1); rintro e w' ⟨rfl, ⟨nd, rfl⟩⟩))
                go_meet
                case rel => exact ⟨_, ((t395 != t403)), (by first | rfl | (simp; done) | (simp [*]; done)), H', ⟨by have := HJ11.out; have := HJ93.out; have := HJ109.out; first | omega | exact Nat.le_refl _⟩, ⟨by (with_reducible repeat (first | apply Kd.R_alloc | apply Kd.R_drewN | apply Kd.R_drew)); exact HO393.out⟩, ⟨by (with_reducible repeat (first | apply Kd.S_alloc | apply Kd.S_drewN | apply Kd.S_drew)); exact Kd.S_mono HO397.out (fun _ hk => hk.1.2)⟩, ⟨by repeat (first | (with_reducible first | exact HB.out | apply below_alloc | apply pw_below_drewN | apply below_drew1) | exact HB.out)⟩⟩
              · replace c136 := Bool.eq_false_iff.mpr c136
                subst c136
                have H1 : (laws_FnPlacingsOrRows.j7 kj109 t391 t394 t395 true) = some r := by rw [if_neg (show ¬ (false = true) by decide)] at H; exact H
                clear H
                have H := H1
                clear H1
                have H' := Aside0.mk H
                clear H
                obtain ⟨Ao140, co140, eo140⟩ := Kd.S_slice HO397.out
                subst eo140
                obtain ⟨Ao141, co141, eo141⟩ := Kd.S_slice HO401.out
                subst eo141
                go_wp2_with (first | (go_at_call 26; (with_reducible refine (laws_yRows.calls kj109 _ _ t394 _ _ t398 false _ ?side1 ?side2 ?side3 ?side4 A135.out).mono ?_); (case side1 => repeat (first | exact (Kd.S_reads' HO397.out).2.2 | (with_reducible refine Kd.C_alloc ?_ _) | (with_reducible refine Kd.C_drewN ?_ _) | (with_reducible refine Kd.C_drew ?_))); (case side2 => exact (Kd.S_reads' HO397.out).2.1); (case side3 => repeat (first | exact (Kd.S_reads' HO401.out).2.2 | (with_reducible refine Kd.C_alloc ?_ _) | (with_reducible refine Kd.C_drewN ?_ _) | (with_reducible refine Kd.C_drew ?_))); (case side4 => exact (Kd.S_reads' HO401.out).2.1); rintro e w' ⟨rfl, ⟨nd, rfl⟩⟩))
                go_meet
                case rel => exact ⟨_, (true), (by first | rfl | (simp; done) | (simp [*]; done)), H', ⟨by have := HJ11.out; have := HJ93.out; have := HJ109.out; first | omega | exact Nat.le_refl _⟩, ⟨by (with_reducible repeat (first | apply Kd.R_alloc | apply Kd.R_drewN | apply Kd.R_drew)); exact HO393.out⟩, ⟨by (with_reducible repeat (first | apply Kd.S_alloc | apply Kd.S_drewN | apply Kd.S_drew)); exact Kd.S_mono HO397.out (fun _ hk => hk.1.2)⟩, ⟨by repeat (first | (with_reducible first | exact HB.out | apply below_alloc | apply pw_below_drewN | apply below_drew1) | exact HB.out)⟩⟩
           case rest => as_aux_lemma =>
            clear HC129
            try clear c1
            try clear c2
            try clear p2
            try clear c3
            try clear p3
            try clear q3
            try clear hx3
            try clear c4
            try clear c5
            try clear c6
            try clear p6
            try clear c8
            try clear c9
            try clear c10
            try clear c11
            try clear c12
            try clear c13
            try clear c14
            try clear c15
            try clear c16
            try clear c17
            try clear c18
            try clear c19
            try clear c21
            try clear c21b0
            try clear c21b1
            try clear c21b2
            try clear c22
            try clear c23
            try clear c24
            try clear c24b0
            try clear c24b1
            try clear c24b2
            try clear c25
            try clear c28
            try clear c29
            try clear c29b0
            try clear c29b1
            try clear c29b2
            try clear c34
            try clear c34b0
            try clear c34b1
            try clear c36
            try clear c36b0
            try clear c36b1
            try clear c36b2
            try clear c38
            try clear p38
            try clear q38
            try clear hx38
            try clear p39
            try clear q39
            try clear hx39
            try clear c42
            try clear c43
            try clear c49
            try clear c50
            try clear c50b0
            try clear c50b1
            try clear c50b2
            try clear p64
            try clear c66
            try clear c67
            try clear c67b0
            try clear c67b1
            try clear c67b2
            try clear c93
            try clear c95
            try clear c98
            try clear c101
            try clear c103
            try clear c103b0
            try clear c104
            try clear c104b0
            try clear c105
            try clear c105b0
            try clear c106
            try clear c106b0
            try clear c107
            try clear c107b0
            try clear c108
            try clear c108b0
            try clear c109
            try clear c109b0
            try clear c111
            try clear c112
            try clear c112b0
            try clear c114
            try clear c114b0
            try clear c115
            try clear c115b0
            try clear c116
            try clear c116b0
            try clear c117
            try clear c118
            try clear c118b0
            try clear c119
            try clear c119b0
            try clear c120
            try clear c120b0
            try clear c121
            try clear c121b0
            try clear c122
            try clear c123
            try clear c123b0
            try clear c134
            try clear c134b0
            try clear c134b1
            try clear c134b2
            try clear c136
            try clear hx385_0
            try clear hx386_0
            try clear hx387_0
            try clear hx388_0
            try clear hx389_0
            try clear hx390_0
            try clear p2
            try clear p3
            try clear p38
            try clear p385
            try clear p386
            try clear p387
            try clear p388
            try clear p389
            try clear p39
            try clear p390
            try clear p6
            try clear p64
            try clear q3
            try clear q38
            try clear q385
            try clear q386
            try clear q387
            try clear q388
            try clear q389
            try clear q39
            try clear q390
            obtain ⟨kq, x212_128, rfl, HA, HJ128, HO_25, HO_26, HB⟩ := hcut
            cases kq with
            | zero => exact absurd HA.out (by simp [laws_FnPlacingsOrRows.j7])
            | succ kj128 =>
             have H := HA.out
             clear HA
             simp only [laws_FnPlacingsOrRows.j7] at H
             by_cases c142 : x212_128 = true
             · subst c142
               have H1 : (some false) = some r := by rw [if_pos rfl] at H; exact H
               clear H
               have H := H1
               clear H1
               obtain rfl := Option.some.inj H
               go_wp2
               go_ret
               exact ⟨by first | rfl | (simp [errW_none, errW_some] <;> rfl) | (simp [*, errW_none, errW_some] <;> rfl), by repeat (first | (with_reducible first | exact HB.out | apply below_alloc | apply pw_below_drewN | apply below_drew1) | exact HB.out)⟩
             · replace c142 := Bool.eq_false_iff.mpr c142
               subst c142
               have H1 : (if t395 = true then ((impl_FirstPlacing.f t394).bind fun bt404 => ((impl_CountPlacings.f t394).bind fun bt408 => ((impl_EqualSum.f kj128 t394).bind fun bt410 => (if bt404.2 = true then ((laws_ySame.f kj128 bt404.1 t391).bind fun t412 => (if t412 = true then (if bt408.2 = true then (if bt408.1 = 1 then (if bt410.2 = true then (some (bt410.1 == 1)) else (some false)) else (some false)) else (some false)) else (some false))) else (some false))))) else (some true)) = some r := by rw [if_neg (show ¬ (false = true) by decide)] at H; exact H
               clear H
               have H := H1
               clear H1
               by_cases c143 : t395 = true
               · subst c143
                 have H1 : ((impl_FirstPlacing.f t394).bind fun bt404 => ((impl_CountPlacings.f t394).bind fun bt408 => ((impl_EqualSum.f kj128 t394).bind fun bt410 => (if bt404.2 = true then ((laws_ySame.f kj128 bt404.1 t391).bind fun t412 => (if t412 = true then (if bt408.2 = true then (if bt408.1 = 1 then (if bt410.2 = true then (some (bt410.1 == 1)) else (some false)) else (some false)) else (some false)) else (some false))) else (some false))))) = some r := by rw [if_pos rfl] at H; exact H
                 clear H
                 have H := H1
                 clear H1
                 replace H := Option.bind_eq_some_iff.mp H
                 obtain ⟨⟨t404, t405⟩, A1440, H⟩ := H
                 replace H : ((impl_CountPlacings.f t394).bind fun bt408 => ((impl_EqualSum.f kj128 t394).bind fun bt410 => (if t405 = true then ((laws_ySame.f kj128 t404 t391).bind fun t412 => (if t412 = true then (if bt408.2 = true then (if bt408.1 = 1 then (if bt410.2 = true then (some (bt410.1 == 1)) else (some false)) else (some false)) else (some false)) else (some false))) else (some false)))) = some r := H
                 have A144 := Aside0.mk A1440
                 clear A1440
                 replace H := Option.bind_eq_some_iff.mp H
                 obtain ⟨⟨t408, t409⟩, A1450, H⟩ := H
                 replace H : ((impl_EqualSum.f kj128 t394).bind fun bt410 => (if t405 = true then ((laws_ySame.f kj128 t404 t391).bind fun t412 => (if t412 = true then (if t409 = true then (if t408 = 1 then (if bt410.2 = true then (some (bt410.1 == 1)) else (some false)) else (some false)) else (some false)) else (some false))) else (some false))) = some r := H
                 have A145 := Aside0.mk A1450
                 clear A1450
                 replace H := Option.bind_eq_some_iff.mp H
                 obtain ⟨⟨t410, t411⟩, A1460, H⟩ := H
                 replace H : (if t405 = true then ((laws_ySame.f kj128 t404 t391).bind fun t412 => (if t412 = true then (if t409 = true then (if t408 = 1 then (if t411 = true then (some (t410 == 1)) else (some false)) else (some false)) else (some false)) else (some false))) else (some false)) = some r := H
                 have A146 := Aside0.mk A1460
                 clear A1460
                 by_cases c147 : t405 = true
                 · subst c147
                   have H1 : ((laws_ySame.f kj128 t404 t391).bind fun t412 => (if t412 = true then (if t409 = true then (if t408 = 1 then (if t411 = true then (some (t410 == 1)) else (some false)) else (some false)) else (some false)) else (some false))) = some r := by rw [if_pos rfl] at H; exact H
                   clear H
                   have H := H1
                   clear H1
                   replace H := Option.bind_eq_some_iff.mp H
                   obtain ⟨t412, A1480, H⟩ := H
                   replace H : (if t412 = true then (if t409 = true then (if t408 = 1 then (if t411 = true then (some (t410 == 1)) else (some false)) else (some false)) else (some false)) else (some false)) = some r := H
                   have A148 := Aside0.mk A1480
                   clear A1480
                   by_cases c149 : t412 = true
                   · subst c149
                     have H1 : (if t409 = true then (if t408 = 1 then (if t411 = true then (some (t410 == 1)) else (some false)) else (some false)) else (some false)) = some r := by rw [if_pos rfl] at H; exact H
                     clear H
                     have H := H1
                     clear H1
                     by_cases c150 : t409 = true
                     · subst c150
                       have H1 : (if t408 = 1 then (if t411 = true then (some (t410 == 1)) else (some false)) else (some false)) = some r := by rw [if_pos rfl] at H; exact H
                       clear H
                       have H := H1
                       clear H1
                       by_cases c151 : t408 = 1
                       · rw [if_pos c151] at H
                         have c151b0 : (t408 == 1) = true := beq_iff_eq.mpr c151
                         have c151b1 : (t408 != 1) = false := bne_eq_false_iff_eq.mpr c151
                         clear c151
                         by_cases c152 : t411 = true
                         · subst c152
                           have H1 : (some (t410 == 1)) = some r := by rw [if_pos rfl] at H; exact H
                           clear H
                           have H := H1
                           clear H1
                           obtain rfl := Option.some.inj H
                           obtain ⟨Ao153, co153, eo153⟩ := Kd.S_slice HO_26.out
                           subst eo153
                           go_wp2_with (first | ((with_reducible refine gate_callee (f := 16) rfl ?_); refine goesL_ (some 216) rfl rfl Tryd.func16 (by kernel_rfl) rfl #[.slice Ao153 t394.length co153] rfl (by (try simp only [List.map_toArray, List.map_cons, List.map_nil]); first | done | rfl | (simp only [List.length_drop, List.length_take]; rfl)) ?_; (with_reducible refine (impl_FirstPlacing.calls _ _ t394 t404 true _ ?side1 ?side2 A144.out).mono ?_); (case side1 => repeat (first | exact (Kd.S_reads' HO_26.out).2.2 | (with_reducible refine Kd.C_alloc ?_ _) | (with_reducible refine Kd.C_drewN ?_ _) | (with_reducible refine Kd.C_drew ?_))); (case side2 => exact (Kd.S_reads' HO_26.out).2.1); rintro e w154 ⟨v406, rfl, ho0, hb⟩; refine ⟨_, rfl, ?_⟩; have n0_ := Aside0.mk (Kd.R_elder' (by (with_reducible repeat (first | apply Kd.R_alloc | apply Kd.R_drewN | apply Kd.R_drew)); exact HO_25.out) (Kd.R_base ho0) hb); have n1_ := Aside0.mk (Kd.S_elder' (by (with_reducible repeat (first | apply Kd.S_alloc | apply Kd.S_drewN | apply Kd.S_drew)); exact HO_26.out) (Kd.R_base ho0) hb); have n2_ := Aside0.mk (Kd.R_lower (Kd.R_new' ho0 (Kd.R_lt (by (with_reducible repeat (first | apply Kd.R_alloc | apply Kd.R_drewN | apply Kd.R_drew)); exact HO_25.out))) (below_size (by repeat (first | (with_reducible first | exact HB.out | apply below_alloc | apply pw_below_drewN | apply below_drew1) | exact HB.out)))); have n3_ := Aside0.mk (below_step (by repeat (first | (with_reducible first | exact HB.out | apply below_alloc | apply pw_below_drewN | apply below_drew1) | exact HB.out)) hb); clear HO_25; clear HO_26; clear HB; have HO_25 := n0_; have HO_26 := n1_; have HO407 := n2_; have HB := n3_; clear n0_ n1_ n2_ n3_; (try clear hb); (try clear hb2); (try clear hk); (try clear hi); (try clear ho0)) | ((with_reducible refine gate_callee (f := 18) rfl ?_); refine goesL_ (some 221) rfl rfl Tryd.func18 (by kernel_rfl) rfl #[.slice Ao153 t394.length co153] rfl (by (try simp only [List.map_toArray, List.map_cons, List.map_nil]); first | done | rfl | (simp only [List.length_drop, List.length_take]; rfl)) ?_; (with_reducible refine (impl_CountPlacings.calls _ _ t394 t408 true _ ?side1 ?side2 A145.out).mono ?_); (case side1 => repeat (first | exact (Kd.S_reads' HO_26.out).2.2 | (with_reducible refine Kd.C_alloc ?_ _) | (with_reducible refine Kd.C_drewN ?_ _) | (with_reducible refine Kd.C_drew ?_))); (case side2 => exact (Kd.S_reads' HO_26.out).2.1); rintro e w155 ⟨rfl, hb⟩; refine ⟨_, rfl, ?_⟩; have n0_ := Aside0.mk (Kd.R_below (by (with_reducible repeat (first | apply Kd.R_alloc | apply Kd.R_drewN | apply Kd.R_drew)); exact HO_25.out) hb); have n1_ := Aside0.mk (Kd.S_below (by (with_reducible repeat (first | apply Kd.S_alloc | apply Kd.S_drewN | apply Kd.S_drew)); exact HO_26.out) hb); have n2_ := Aside0.mk (Kd.R_below (by (with_reducible repeat (first | apply Kd.R_alloc | apply Kd.R_drewN | apply Kd.R_drew)); exact HO407.out) hb); have n3_ := Aside0.mk (below_step (by repeat (first | (with_reducible first | exact HB.out | apply below_alloc | apply pw_below_drewN | apply below_drew1) | exact HB.out)) hb); clear HO_25; clear HO_26; clear HO407; clear HB; have HO_25 := n0_; have HO_26 := n1_; have HO407 := n2_; have HB := n3_; clear n0_ n1_ n2_ n3_; (try clear hb); (try clear hb2); (try clear hk); (try clear hi)) | ((with_reducible refine gate_callee (f := 27) rfl ?_); refine goesL_ (some 226) rfl rfl Tryd.func27 (by kernel_rfl) rfl #[.slice Ao153 t394.length co153] rfl (by (try simp only [List.map_toArray, List.map_cons, List.map_nil]); first | done | rfl | (simp only [List.length_drop, List.length_take]; rfl)) ?_; (with_reducible refine (impl_EqualSum.calls kj128 _ _ t394 t410 true _ ?side1 ?side2 A146.out).mono ?_); (case side1 => repeat (first | exact (Kd.S_reads' HO_26.out).2.2 | (with_reducible refine Kd.C_alloc ?_ _) | (with_reducible refine Kd.C_drewN ?_ _) | (with_reducible refine Kd.C_drew ?_))); (case side2 => exact (Kd.S_reads' HO_26.out).2.1); rintro e w156 ⟨rfl, hb⟩; refine ⟨_, rfl, ?_⟩; have n0_ := Aside0.mk (Kd.R_below (by (with_reducible repeat (first | apply Kd.R_alloc | apply Kd.R_drewN | apply Kd.R_drew)); exact HO_25.out) hb); have n1_ := Aside0.mk (Kd.S_below (by (with_reducible repeat (first | apply Kd.S_alloc | apply Kd.S_drewN | apply Kd.S_drew)); exact HO_26.out) hb); have n2_ := Aside0.mk (Kd.R_below (by (with_reducible repeat (first | apply Kd.R_alloc | apply Kd.R_drewN | apply Kd.R_drew)); exact HO407.out) hb); have n3_ := Aside0.mk (below_step (by repeat (first | (with_reducible first | exact HB.out | apply below_alloc | apply pw_below_drewN | apply below_drew1) | exact HB.out)) hb); clear HO_25; clear HO_26; clear HO407; clear HB; have HO_25 := n0_; have HO_26 := n1_; have HO407 := n2_; have HB := n3_; clear n0_ n1_ n2_ n3_; (try clear hb); (try clear hb2); (try clear hk); (try clear hi); obtain ⟨Ao157, co157, eo157⟩ := Kd.R_slice HO407.out; subst eo157) | (go_at_call 20; (with_reducible refine (laws_ySame.calls kj128 _ _ t404 _ _ t391 true _ ?side1 ?side2 ?side3 ?side4 A148.out).mono ?_); (case side1 => repeat (first | exact (Kd.R_reads' HO407.out).2.2 | (with_reducible refine Kd.C_alloc ?_ _) | (with_reducible refine Kd.C_drewN ?_ _) | (with_reducible refine Kd.C_drew ?_))); (case side2 => exact (Kd.R_reads' HO407.out).2.1); (case side3 => repeat (first | exact (Kd.R_reads' HO_25.out).2.2 | (with_reducible refine Kd.C_alloc ?_ _) | (with_reducible refine Kd.C_drewN ?_ _) | (with_reducible refine Kd.C_drew ?_))); (case side4 => exact (Kd.R_reads' HO_25.out).2.1); rintro e w' ⟨rfl, ⟨nd, rfl⟩⟩))
                           go_ret
                           exact ⟨by first | rfl | (simp [errW_none, errW_some] <;> rfl) | (simp [*, errW_none, errW_some] <;> rfl), by repeat (first | (with_reducible first | exact HB.out | apply below_alloc | apply pw_below_drewN | apply below_drew1) | exact HB.out)⟩
                         · replace c152 := Bool.eq_false_iff.mpr c152
                           subst c152
                           have H1 : (some false) = some r := by rw [if_neg (show ¬ (false = true) by decide)] at H; exact H
                           clear H
                           have H := H1
                           clear H1
                           obtain rfl := Option.some.inj H
                           obtain ⟨Ao158, co158, eo158⟩ := Kd.S_slice HO_26.out
                           subst eo158
                           go_wp2_with (first | ((with_reducible refine gate_callee (f := 16) rfl ?_); refine goesL_ (some 216) rfl rfl Tryd.func16 (by kernel_rfl) rfl #[.slice Ao158 t394.length co158] rfl (by (try simp only [List.map_toArray, List.map_cons, List.map_nil]); first | done | rfl | (simp only [List.length_drop, List.length_take]; rfl)) ?_; (with_reducible refine (impl_FirstPlacing.calls _ _ t394 t404 true _ ?side1 ?side2 A144.out).mono ?_); (case side1 => repeat (first | exact (Kd.S_reads' HO_26.out).2.2 | (with_reducible refine Kd.C_alloc ?_ _) | (with_reducible refine Kd.C_drewN ?_ _) | (with_reducible refine Kd.C_drew ?_))); (case side2 => exact (Kd.S_reads' HO_26.out).2.1); rintro e w159 ⟨v406, rfl, ho0, hb⟩; refine ⟨_, rfl, ?_⟩; have n0_ := Aside0.mk (Kd.R_elder' (by (with_reducible repeat (first | apply Kd.R_alloc | apply Kd.R_drewN | apply Kd.R_drew)); exact HO_25.out) (Kd.R_base ho0) hb); have n1_ := Aside0.mk (Kd.S_elder' (by (with_reducible repeat (first | apply Kd.S_alloc | apply Kd.S_drewN | apply Kd.S_drew)); exact HO_26.out) (Kd.R_base ho0) hb); have n2_ := Aside0.mk (Kd.R_lower (Kd.R_new' ho0 (Kd.R_lt (by (with_reducible repeat (first | apply Kd.R_alloc | apply Kd.R_drewN | apply Kd.R_drew)); exact HO_25.out))) (below_size (by repeat (first | (with_reducible first | exact HB.out | apply below_alloc | apply pw_below_drewN | apply below_drew1) | exact HB.out)))); have n3_ := Aside0.mk (below_step (by repeat (first | (with_reducible first | exact HB.out | apply below_alloc | apply pw_below_drewN | apply below_drew1) | exact HB.out)) hb); clear HO_25; clear HO_26; clear HB; have HO_25 := n0_; have HO_26 := n1_; have HO407 := n2_; have HB := n3_; clear n0_ n1_ n2_ n3_; (try clear hb); (try clear hb2); (try clear hk); (try clear hi); (try clear ho0)) | ((with_reducible refine gate_callee (f := 18) rfl ?_); refine goesL_ (some 221) rfl rfl Tryd.func18 (by kernel_rfl) rfl #[.slice Ao158 t394.length co158] rfl (by (try simp only [List.map_toArray, List.map_cons, List.map_nil]); first | done | rfl | (simp only [List.length_drop, List.length_take]; rfl)) ?_; (with_reducible refine (impl_CountPlacings.calls _ _ t394 t408 true _ ?side1 ?side2 A145.out).mono ?_); (case side1 => repeat (first | exact (Kd.S_reads' HO_26.out).2.2 | (with_reducible refine Kd.C_alloc ?_ _) | (with_reducible refine Kd.C_drewN ?_ _) | (with_reducible refine Kd.C_drew ?_))); (case side2 => exact (Kd.S_reads' HO_26.out).2.1); rintro e w160 ⟨rfl, hb⟩; refine ⟨_, rfl, ?_⟩; have n0_ := Aside0.mk (Kd.R_below (by (with_reducible repeat (first | apply Kd.R_alloc | apply Kd.R_drewN | apply Kd.R_drew)); exact HO_25.out) hb); have n1_ := Aside0.mk (Kd.S_below (by (with_reducible repeat (first | apply Kd.S_alloc | apply Kd.S_drewN | apply Kd.S_drew)); exact HO_26.out) hb); have n2_ := Aside0.mk (Kd.R_below (by (with_reducible repeat (first | apply Kd.R_alloc | apply Kd.R_drewN | apply Kd.R_drew)); exact HO407.out) hb); have n3_ := Aside0.mk (below_step (by repeat (first | (with_reducible first | exact HB.out | apply below_alloc | apply pw_below_drewN | apply below_drew1) | exact HB.out)) hb); clear HO_25; clear HO_26; clear HO407; clear HB; have HO_25 := n0_; have HO_26 := n1_; have HO407 := n2_; have HB := n3_; clear n0_ n1_ n2_ n3_; (try clear hb); (try clear hb2); (try clear hk); (try clear hi)) | ((with_reducible refine gate_callee (f := 27) rfl ?_); refine goesL_ (some 226) rfl rfl Tryd.func27 (by kernel_rfl) rfl #[.slice Ao158 t394.length co158] rfl (by (try simp only [List.map_toArray, List.map_cons, List.map_nil]); first | done | rfl | (simp only [List.length_drop, List.length_take]; rfl)) ?_; (with_reducible refine (impl_EqualSum.calls kj128 _ _ t394 t410 false _ ?side1 ?side2 A146.out).mono ?_); (case side1 => repeat (first | exact (Kd.S_reads' HO_26.out).2.2 | (with_reducible refine Kd.C_alloc ?_ _) | (with_reducible refine Kd.C_drewN ?_ _) | (with_reducible refine Kd.C_drew ?_))); (case side2 => exact (Kd.S_reads' HO_26.out).2.1); rintro e w161 ⟨rfl, hb⟩; refine ⟨_, rfl, ?_⟩; have n0_ := Aside0.mk (Kd.R_below (by (with_reducible repeat (first | apply Kd.R_alloc | apply Kd.R_drewN | apply Kd.R_drew)); exact HO_25.out) hb); have n1_ := Aside0.mk (Kd.S_below (by (with_reducible repeat (first | apply Kd.S_alloc | apply Kd.S_drewN | apply Kd.S_drew)); exact HO_26.out) hb); have n2_ := Aside0.mk (Kd.R_below (by (with_reducible repeat (first | apply Kd.R_alloc | apply Kd.R_drewN | apply Kd.R_drew)); exact HO407.out) hb); have n3_ := Aside0.mk (below_step (by repeat (first | (with_reducible first | exact HB.out | apply below_alloc | apply pw_below_drewN | apply below_drew1) | exact HB.out)) hb); clear HO_25; clear HO_26; clear HO407; clear HB; have HO_25 := n0_; have HO_26 := n1_; have HO407 := n2_; have HB := n3_; clear n0_ n1_ n2_ n3_; (try clear hb); (try clear hb2); (try clear hk); (try clear hi); obtain ⟨Ao162, co162, eo162⟩ := Kd.R_slice HO407.out; subst eo162) | (go_at_call 20; (with_reducible refine (laws_ySame.calls kj128 _ _ t404 _ _ t391 true _ ?side1 ?side2 ?side3 ?side4 A148.out).mono ?_); (case side1 => repeat (first | exact (Kd.R_reads' HO407.out).2.2 | (with_reducible refine Kd.C_alloc ?_ _) | (with_reducible refine Kd.C_drewN ?_ _) | (with_reducible refine Kd.C_drew ?_))); (case side2 => exact (Kd.R_reads' HO407.out).2.1); (case side3 => repeat (first | exact (Kd.R_reads' HO_25.out).2.2 | (with_reducible refine Kd.C_alloc ?_ _) | (with_reducible refine Kd.C_drewN ?_ _) | (with_reducible refine Kd.C_drew ?_))); (case side4 => exact (Kd.R_reads' HO_25.out).2.1); rintro e w' ⟨rfl, ⟨nd, rfl⟩⟩))
                           go_ret
                           exact ⟨by first | rfl | (simp [errW_none, errW_some] <;> rfl) | (simp [*, errW_none, errW_some] <;> rfl), by repeat (first | (with_reducible first | exact HB.out | apply below_alloc | apply pw_below_drewN | apply below_drew1) | exact HB.out)⟩
                       · rw [if_neg c151] at H
                         have c151b0 : (t408 == 1) = false := beq_eq_false_iff_ne.mpr c151
                         have c151b1 : (t408 != 1) = true := bne_iff_ne.mpr c151
                         obtain rfl := Option.some.inj H
                         obtain ⟨Ao163, co163, eo163⟩ := Kd.S_slice HO_26.out
                         subst eo163
                         go_wp2_with (first | ((with_reducible refine gate_callee (f := 16) rfl ?_); refine goesL_ (some 216) rfl rfl Tryd.func16 (by kernel_rfl) rfl #[.slice Ao163 t394.length co163] rfl (by (try simp only [List.map_toArray, List.map_cons, List.map_nil]); first | done | rfl | (simp only [List.length_drop, List.length_take]; rfl)) ?_; (with_reducible refine (impl_FirstPlacing.calls _ _ t394 t404 true _ ?side1 ?side2 A144.out).mono ?_); (case side1 => repeat (first | exact (Kd.S_reads' HO_26.out).2.2 | (with_reducible refine Kd.C_alloc ?_ _) | (with_reducible refine Kd.C_drewN ?_ _) | (with_reducible refine Kd.C_drew ?_))); (case side2 => exact (Kd.S_reads' HO_26.out).2.1); rintro e w164 ⟨v406, rfl, ho0, hb⟩; refine ⟨_, rfl, ?_⟩; have n0_ := Aside0.mk (Kd.R_elder' (by (with_reducible repeat (first | apply Kd.R_alloc | apply Kd.R_drewN | apply Kd.R_drew)); exact HO_25.out) (Kd.R_base ho0) hb); have n1_ := Aside0.mk (Kd.S_elder' (by (with_reducible repeat (first | apply Kd.S_alloc | apply Kd.S_drewN | apply Kd.S_drew)); exact HO_26.out) (Kd.R_base ho0) hb); have n2_ := Aside0.mk (Kd.R_lower (Kd.R_new' ho0 (Kd.R_lt (by (with_reducible repeat (first | apply Kd.R_alloc | apply Kd.R_drewN | apply Kd.R_drew)); exact HO_25.out))) (below_size (by repeat (first | (with_reducible first | exact HB.out | apply below_alloc | apply pw_below_drewN | apply below_drew1) | exact HB.out)))); have n3_ := Aside0.mk (below_step (by repeat (first | (with_reducible first | exact HB.out | apply below_alloc | apply pw_below_drewN | apply below_drew1) | exact HB.out)) hb); clear HO_25; clear HO_26; clear HB; have HO_25 := n0_; have HO_26 := n1_; have HO407 := n2_; have HB := n3_; clear n0_ n1_ n2_ n3_; (try clear hb); (try clear hb2); (try clear hk); (try clear hi); (try clear ho0)) | ((with_reducible refine gate_callee (f := 18) rfl ?_); refine goesL_ (some 221) rfl rfl Tryd.func18 (by kernel_rfl) rfl #[.slice Ao163 t394.length co163] rfl (by (try simp only [List.map_toArray, List.map_cons, List.map_nil]); first | done | rfl | (simp only [List.length_drop, List.length_take]; rfl)) ?_; (with_reducible refine (impl_CountPlacings.calls _ _ t394 t408 true _ ?side1 ?side2 A145.out).mono ?_); (case side1 => repeat (first | exact (Kd.S_reads' HO_26.out).2.2 | (with_reducible refine Kd.C_alloc ?_ _) | (with_reducible refine Kd.C_drewN ?_ _) | (with_reducible refine Kd.C_drew ?_))); (case side2 => exact (Kd.S_reads' HO_26.out).2.1); rintro e w165 ⟨rfl, hb⟩; refine ⟨_, rfl, ?_⟩; have n0_ := Aside0.mk (Kd.R_below (by (with_reducible repeat (first | apply Kd.R_alloc | apply Kd.R_drewN | apply Kd.R_drew)); exact HO_25.out) hb); have n1_ := Aside0.mk (Kd.S_below (by (with_reducible repeat (first | apply Kd.S_alloc | apply Kd.S_drewN | apply Kd.S_drew)); exact HO_26.out) hb); have n2_ := Aside0.mk (Kd.R_below (by (with_reducible repeat (first | apply Kd.R_alloc | apply Kd.R_drewN | apply Kd.R_drew)); exact HO407.out) hb); have n3_ := Aside0.mk (below_step (by repeat (first | (with_reducible first | exact HB.out | apply below_alloc | apply pw_below_drewN | apply below_drew1) | exact HB.out)) hb); clear HO_25; clear HO_26; clear HO407; clear HB; have HO_25 := n0_; have HO_26 := n1_; have HO407 := n2_; have HB := n3_; clear n0_ n1_ n2_ n3_; (try clear hb); (try clear hb2); (try clear hk); (try clear hi)) | ((with_reducible refine gate_callee (f := 27) rfl ?_); refine goesL_ (some 226) rfl rfl Tryd.func27 (by kernel_rfl) rfl #[.slice Ao163 t394.length co163] rfl (by (try simp only [List.map_toArray, List.map_cons, List.map_nil]); first | done | rfl | (simp only [List.length_drop, List.length_take]; rfl)) ?_; (with_reducible refine (impl_EqualSum.calls kj128 _ _ t394 t410 t411 _ ?side1 ?side2 A146.out).mono ?_); (case side1 => repeat (first | exact (Kd.S_reads' HO_26.out).2.2 | (with_reducible refine Kd.C_alloc ?_ _) | (with_reducible refine Kd.C_drewN ?_ _) | (with_reducible refine Kd.C_drew ?_))); (case side2 => exact (Kd.S_reads' HO_26.out).2.1); rintro e w166 ⟨rfl, hb⟩; refine ⟨_, rfl, ?_⟩; have n0_ := Aside0.mk (Kd.R_below (by (with_reducible repeat (first | apply Kd.R_alloc | apply Kd.R_drewN | apply Kd.R_drew)); exact HO_25.out) hb); have n1_ := Aside0.mk (Kd.S_below (by (with_reducible repeat (first | apply Kd.S_alloc | apply Kd.S_drewN | apply Kd.S_drew)); exact HO_26.out) hb); have n2_ := Aside0.mk (Kd.R_below (by (with_reducible repeat (first | apply Kd.R_alloc | apply Kd.R_drewN | apply Kd.R_drew)); exact HO407.out) hb); have n3_ := Aside0.mk (below_step (by repeat (first | (with_reducible first | exact HB.out | apply below_alloc | apply pw_below_drewN | apply below_drew1) | exact HB.out)) hb); clear HO_25; clear HO_26; clear HO407; clear HB; have HO_25 := n0_; have HO_26 := n1_; have HO407 := n2_; have HB := n3_; clear n0_ n1_ n2_ n3_; (try clear hb); (try clear hb2); (try clear hk); (try clear hi); obtain ⟨Ao167, co167, eo167⟩ := Kd.R_slice HO407.out; subst eo167) | (go_at_call 20; (with_reducible refine (laws_ySame.calls kj128 _ _ t404 _ _ t391 true _ ?side1 ?side2 ?side3 ?side4 A148.out).mono ?_); (case side1 => repeat (first | exact (Kd.R_reads' HO407.out).2.2 | (with_reducible refine Kd.C_alloc ?_ _) | (with_reducible refine Kd.C_drewN ?_ _) | (with_reducible refine Kd.C_drew ?_))); (case side2 => exact (Kd.R_reads' HO407.out).2.1); (case side3 => repeat (first | exact (Kd.R_reads' HO_25.out).2.2 | (with_reducible refine Kd.C_alloc ?_ _) | (with_reducible refine Kd.C_drewN ?_ _) | (with_reducible refine Kd.C_drew ?_))); (case side4 => exact (Kd.R_reads' HO_25.out).2.1); rintro e w' ⟨rfl, ⟨nd, rfl⟩⟩))
                         go_ret
                         exact ⟨by first | rfl | (simp [errW_none, errW_some] <;> rfl) | (simp [*, errW_none, errW_some] <;> rfl), by repeat (first | (with_reducible first | exact HB.out | apply below_alloc | apply pw_below_drewN | apply below_drew1) | exact HB.out)⟩
                     · replace c150 := Bool.eq_false_iff.mpr c150
                       subst c150
                       have H1 : (some false) = some r := by rw [if_neg (show ¬ (false = true) by decide)] at H; exact H
                       clear H
                       have H := H1
                       clear H1
                       obtain rfl := Option.some.inj H
                       obtain ⟨Ao168, co168, eo168⟩ := Kd.S_slice HO_26.out
                       subst eo168
                       go_wp2_with (first | ((with_reducible refine gate_callee (f := 16) rfl ?_); refine goesL_ (some 216) rfl rfl Tryd.func16 (by kernel_rfl) rfl #[.slice Ao168 t394.length co168] rfl (by (try simp only [List.map_toArray, List.map_cons, List.map_nil]); first | done | rfl | (simp only [List.length_drop, List.length_take]; rfl)) ?_; (with_reducible refine (impl_FirstPlacing.calls _ _ t394 t404 true _ ?side1 ?side2 A144.out).mono ?_); (case side1 => repeat (first | exact (Kd.S_reads' HO_26.out).2.2 | (with_reducible refine Kd.C_alloc ?_ _) | (with_reducible refine Kd.C_drewN ?_ _) | (with_reducible refine Kd.C_drew ?_))); (case side2 => exact (Kd.S_reads' HO_26.out).2.1); rintro e w169 ⟨v406, rfl, ho0, hb⟩; refine ⟨_, rfl, ?_⟩; have n0_ := Aside0.mk (Kd.R_elder' (by (with_reducible repeat (first | apply Kd.R_alloc | apply Kd.R_drewN | apply Kd.R_drew)); exact HO_25.out) (Kd.R_base ho0) hb); have n1_ := Aside0.mk (Kd.S_elder' (by (with_reducible repeat (first | apply Kd.S_alloc | apply Kd.S_drewN | apply Kd.S_drew)); exact HO_26.out) (Kd.R_base ho0) hb); have n2_ := Aside0.mk (Kd.R_lower (Kd.R_new' ho0 (Kd.R_lt (by (with_reducible repeat (first | apply Kd.R_alloc | apply Kd.R_drewN | apply Kd.R_drew)); exact HO_25.out))) (below_size (by repeat (first | (with_reducible first | exact HB.out | apply below_alloc | apply pw_below_drewN | apply below_drew1) | exact HB.out)))); have n3_ := Aside0.mk (below_step (by repeat (first | (with_reducible first | exact HB.out | apply below_alloc | apply pw_below_drewN | apply below_drew1) | exact HB.out)) hb); clear HO_25; clear HO_26; clear HB; have HO_25 := n0_; have HO_26 := n1_; have HO407 := n2_; have HB := n3_; clear n0_ n1_ n2_ n3_; (try clear hb); (try clear hb2); (try clear hk); (try clear hi); (try clear ho0)) | ((with_reducible refine gate_callee (f := 18) rfl ?_); refine goesL_ (some 221) rfl rfl Tryd.func18 (by kernel_rfl) rfl #[.slice Ao168 t394.length co168] rfl (by (try simp only [List.map_toArray, List.map_cons, List.map_nil]); first | done | rfl | (simp only [List.length_drop, List.length_take]; rfl)) ?_; (with_reducible refine (impl_CountPlacings.calls _ _ t394 t408 false _ ?side1 ?side2 A145.out).mono ?_); (case side1 => repeat (first | exact (Kd.S_reads' HO_26.out).2.2 | (with_reducible refine Kd.C_alloc ?_ _) | (with_reducible refine Kd.C_drewN ?_ _) | (with_reducible refine Kd.C_drew ?_))); (case side2 => exact (Kd.S_reads' HO_26.out).2.1); rintro e w170 ⟨rfl, hb⟩; refine ⟨_, rfl, ?_⟩; have n0_ := Aside0.mk (Kd.R_below (by (with_reducible repeat (first | apply Kd.R_alloc | apply Kd.R_drewN | apply Kd.R_drew)); exact HO_25.out) hb); have n1_ := Aside0.mk (Kd.S_below (by (with_reducible repeat (first | apply Kd.S_alloc | apply Kd.S_drewN | apply Kd.S_drew)); exact HO_26.out) hb); have n2_ := Aside0.mk (Kd.R_below (by (with_reducible repeat (first | apply Kd.R_alloc | apply Kd.R_drewN | apply Kd.R_drew)); exact HO407.out) hb); have n3_ := Aside0.mk (below_step (by repeat (first | (with_reducible first | exact HB.out | apply below_alloc | apply pw_below_drewN | apply below_drew1) | exact HB.out)) hb); clear HO_25; clear HO_26; clear HO407; clear HB; have HO_25 := n0_; have HO_26 := n1_; have HO407 := n2_; have HB := n3_; clear n0_ n1_ n2_ n3_; (try clear hb); (try clear hb2); (try clear hk); (try clear hi)) | ((with_reducible refine gate_callee (f := 27) rfl ?_); refine goesL_ (some 226) rfl rfl Tryd.func27 (by kernel_rfl) rfl #[.slice Ao168 t394.length co168] rfl (by (try simp only [List.map_toArray, List.map_cons, List.map_nil]); first | done | rfl | (simp only [List.length_drop, List.length_take]; rfl)) ?_; (with_reducible refine (impl_EqualSum.calls kj128 _ _ t394 t410 t411 _ ?side1 ?side2 A146.out).mono ?_); (case side1 => repeat (first | exact (Kd.S_reads' HO_26.out).2.2 | (with_reducible refine Kd.C_alloc ?_ _) | (with_reducible refine Kd.C_drewN ?_ _) | (with_reducible refine Kd.C_drew ?_))); (case side2 => exact (Kd.S_reads' HO_26.out).2.1); rintro e w171 ⟨rfl, hb⟩; refine ⟨_, rfl, ?_⟩; have n0_ := Aside0.mk (Kd.R_below (by (with_reducible repeat (first | apply Kd.R_alloc | apply Kd.R_drewN | apply Kd.R_drew)); exact HO_25.out) hb); have n1_ := Aside0.mk (Kd.S_below (by (with_reducible repeat (first | apply Kd.S_alloc | apply Kd.S_drewN | apply Kd.S_drew)); exact HO_26.out) hb); have n2_ := Aside0.mk (Kd.R_below (by (with_reducible repeat (first | apply Kd.R_alloc | apply Kd.R_drewN | apply Kd.R_drew)); exact HO407.out) hb); have n3_ := Aside0.mk (below_step (by repeat (first | (with_reducible first | exact HB.out | apply below_alloc | apply pw_below_drewN | apply below_drew1) | exact HB.out)) hb); clear HO_25; clear HO_26; clear HO407; clear HB; have HO_25 := n0_; have HO_26 := n1_; have HO407 := n2_; have HB := n3_; clear n0_ n1_ n2_ n3_; (try clear hb); (try clear hb2); (try clear hk); (try clear hi); obtain ⟨Ao172, co172, eo172⟩ := Kd.R_slice HO407.out; subst eo172) | (go_at_call 20; (with_reducible refine (laws_ySame.calls kj128 _ _ t404 _ _ t391 true _ ?side1 ?side2 ?side3 ?side4 A148.out).mono ?_); (case side1 => repeat (first | exact (Kd.R_reads' HO407.out).2.2 | (with_reducible refine Kd.C_alloc ?_ _) | (with_reducible refine Kd.C_drewN ?_ _) | (with_reducible refine Kd.C_drew ?_))); (case side2 => exact (Kd.R_reads' HO407.out).2.1); (case side3 => repeat (first | exact (Kd.R_reads' HO_25.out).2.2 | (with_reducible refine Kd.C_alloc ?_ _) | (with_reducible refine Kd.C_drewN ?_ _) | (with_reducible refine Kd.C_drew ?_))); (case side4 => exact (Kd.R_reads' HO_25.out).2.1); rintro e w' ⟨rfl, ⟨nd, rfl⟩⟩))
                       go_ret
                       exact ⟨by first | rfl | (simp [errW_none, errW_some] <;> rfl) | (simp [*, errW_none, errW_some] <;> rfl), by repeat (first | (with_reducible first | exact HB.out | apply below_alloc | apply pw_below_drewN | apply below_drew1) | exact HB.out)⟩
                   · replace c149 := Bool.eq_false_iff.mpr c149
                     subst c149
                     have H1 : (some false) = some r := by rw [if_neg (show ¬ (false = true) by decide)] at H; exact H
                     clear H
                     have H := H1
                     clear H1
                     obtain rfl := Option.some.inj H
                     obtain ⟨Ao173, co173, eo173⟩ := Kd.S_slice HO_26.out
                     subst eo173
                     go_wp2_with (first | ((with_reducible refine gate_callee (f := 16) rfl ?_); refine goesL_ (some 216) rfl rfl Tryd.func16 (by kernel_rfl) rfl #[.slice Ao173 t394.length co173] rfl (by (try simp only [List.map_toArray, List.map_cons, List.map_nil]); first | done | rfl | (simp only [List.length_drop, List.length_take]; rfl)) ?_; (with_reducible refine (impl_FirstPlacing.calls _ _ t394 t404 true _ ?side1 ?side2 A144.out).mono ?_); (case side1 => repeat (first | exact (Kd.S_reads' HO_26.out).2.2 | (with_reducible refine Kd.C_alloc ?_ _) | (with_reducible refine Kd.C_drewN ?_ _) | (with_reducible refine Kd.C_drew ?_))); (case side2 => exact (Kd.S_reads' HO_26.out).2.1); rintro e w174 ⟨v406, rfl, ho0, hb⟩; refine ⟨_, rfl, ?_⟩; have n0_ := Aside0.mk (Kd.R_elder' (by (with_reducible repeat (first | apply Kd.R_alloc | apply Kd.R_drewN | apply Kd.R_drew)); exact HO_25.out) (Kd.R_base ho0) hb); have n1_ := Aside0.mk (Kd.S_elder' (by (with_reducible repeat (first | apply Kd.S_alloc | apply Kd.S_drewN | apply Kd.S_drew)); exact HO_26.out) (Kd.R_base ho0) hb); have n2_ := Aside0.mk (Kd.R_lower (Kd.R_new' ho0 (Kd.R_lt (by (with_reducible repeat (first | apply Kd.R_alloc | apply Kd.R_drewN | apply Kd.R_drew)); exact HO_25.out))) (below_size (by repeat (first | (with_reducible first | exact HB.out | apply below_alloc | apply pw_below_drewN | apply below_drew1) | exact HB.out)))); have n3_ := Aside0.mk (below_step (by repeat (first | (with_reducible first | exact HB.out | apply below_alloc | apply pw_below_drewN | apply below_drew1) | exact HB.out)) hb); clear HO_25; clear HO_26; clear HB; have HO_25 := n0_; have HO_26 := n1_; have HO407 := n2_; have HB := n3_; clear n0_ n1_ n2_ n3_; (try clear hb); (try clear hb2); (try clear hk); (try clear hi); (try clear ho0)) | ((with_reducible refine gate_callee (f := 18) rfl ?_); refine goesL_ (some 221) rfl rfl Tryd.func18 (by kernel_rfl) rfl #[.slice Ao173 t394.length co173] rfl (by (try simp only [List.map_toArray, List.map_cons, List.map_nil]); first | done | rfl | (simp only [List.length_drop, List.length_take]; rfl)) ?_; (with_reducible refine (impl_CountPlacings.calls _ _ t394 t408 t409 _ ?side1 ?side2 A145.out).mono ?_); (case side1 => repeat (first | exact (Kd.S_reads' HO_26.out).2.2 | (with_reducible refine Kd.C_alloc ?_ _) | (with_reducible refine Kd.C_drewN ?_ _) | (with_reducible refine Kd.C_drew ?_))); (case side2 => exact (Kd.S_reads' HO_26.out).2.1); rintro e w175 ⟨rfl, hb⟩; refine ⟨_, rfl, ?_⟩; have n0_ := Aside0.mk (Kd.R_below (by (with_reducible repeat (first | apply Kd.R_alloc | apply Kd.R_drewN | apply Kd.R_drew)); exact HO_25.out) hb); have n1_ := Aside0.mk (Kd.S_below (by (with_reducible repeat (first | apply Kd.S_alloc | apply Kd.S_drewN | apply Kd.S_drew)); exact HO_26.out) hb); have n2_ := Aside0.mk (Kd.R_below (by (with_reducible repeat (first | apply Kd.R_alloc | apply Kd.R_drewN | apply Kd.R_drew)); exact HO407.out) hb); have n3_ := Aside0.mk (below_step (by repeat (first | (with_reducible first | exact HB.out | apply below_alloc | apply pw_below_drewN | apply below_drew1) | exact HB.out)) hb); clear HO_25; clear HO_26; clear HO407; clear HB; have HO_25 := n0_; have HO_26 := n1_; have HO407 := n2_; have HB := n3_; clear n0_ n1_ n2_ n3_; (try clear hb); (try clear hb2); (try clear hk); (try clear hi)) | ((with_reducible refine gate_callee (f := 27) rfl ?_); refine goesL_ (some 226) rfl rfl Tryd.func27 (by kernel_rfl) rfl #[.slice Ao173 t394.length co173] rfl (by (try simp only [List.map_toArray, List.map_cons, List.map_nil]); first | done | rfl | (simp only [List.length_drop, List.length_take]; rfl)) ?_; (with_reducible refine (impl_EqualSum.calls kj128 _ _ t394 t410 t411 _ ?side1 ?side2 A146.out).mono ?_); (case side1 => repeat (first | exact (Kd.S_reads' HO_26.out).2.2 | (with_reducible refine Kd.C_alloc ?_ _) | (with_reducible refine Kd.C_drewN ?_ _) | (with_reducible refine Kd.C_drew ?_))); (case side2 => exact (Kd.S_reads' HO_26.out).2.1); rintro e w176 ⟨rfl, hb⟩; refine ⟨_, rfl, ?_⟩; have n0_ := Aside0.mk (Kd.R_below (by (with_reducible repeat (first | apply Kd.R_alloc | apply Kd.R_drewN | apply Kd.R_drew)); exact HO_25.out) hb); have n1_ := Aside0.mk (Kd.S_below (by (with_reducible repeat (first | apply Kd.S_alloc | apply Kd.S_drewN | apply Kd.S_drew)); exact HO_26.out) hb); have n2_ := Aside0.mk (Kd.R_below (by (with_reducible repeat (first | apply Kd.R_alloc | apply Kd.R_drewN | apply Kd.R_drew)); exact HO407.out) hb); have n3_ := Aside0.mk (below_step (by repeat (first | (with_reducible first | exact HB.out | apply below_alloc | apply pw_below_drewN | apply below_drew1) | exact HB.out)) hb); clear HO_25; clear HO_26; clear HO407; clear HB; have HO_25 := n0_; have HO_26 := n1_; have HO407 := n2_; have HB := n3_; clear n0_ n1_ n2_ n3_; (try clear hb); (try clear hb2); (try clear hk); (try clear hi); obtain ⟨Ao177, co177, eo177⟩ := Kd.R_slice HO407.out; subst eo177) | (go_at_call 20; (with_reducible refine (laws_ySame.calls kj128 _ _ t404 _ _ t391 false _ ?side1 ?side2 ?side3 ?side4 A148.out).mono ?_); (case side1 => repeat (first | exact (Kd.R_reads' HO407.out).2.2 | (with_reducible refine Kd.C_alloc ?_ _) | (with_reducible refine Kd.C_drewN ?_ _) | (with_reducible refine Kd.C_drew ?_))); (case side2 => exact (Kd.R_reads' HO407.out).2.1); (case side3 => repeat (first | exact (Kd.R_reads' HO_25.out).2.2 | (with_reducible refine Kd.C_alloc ?_ _) | (with_reducible refine Kd.C_drewN ?_ _) | (with_reducible refine Kd.C_drew ?_))); (case side4 => exact (Kd.R_reads' HO_25.out).2.1); rintro e w' ⟨rfl, ⟨nd, rfl⟩⟩))
                     go_ret
                     exact ⟨by first | rfl | (simp [errW_none, errW_some] <;> rfl) | (simp [*, errW_none, errW_some] <;> rfl), by repeat (first | (with_reducible first | exact HB.out | apply below_alloc | apply pw_below_drewN | apply below_drew1) | exact HB.out)⟩
                 · replace c147 := Bool.eq_false_iff.mpr c147
                   subst c147
                   have H1 : (some false) = some r := by rw [if_neg (show ¬ (false = true) by decide)] at H; exact H
                   clear H
                   have H := H1
                   clear H1
                   obtain rfl := Option.some.inj H
                   obtain ⟨Ao178, co178, eo178⟩ := Kd.S_slice HO_26.out
                   subst eo178
                   go_wp2_with (first | ((with_reducible refine gate_callee (f := 16) rfl ?_); refine goesL_ (some 216) rfl rfl Tryd.func16 (by kernel_rfl) rfl #[.slice Ao178 t394.length co178] rfl (by (try simp only [List.map_toArray, List.map_cons, List.map_nil]); first | done | rfl | (simp only [List.length_drop, List.length_take]; rfl)) ?_; (with_reducible refine (impl_FirstPlacing.calls _ _ t394 t404 false _ ?side1 ?side2 A144.out).mono ?_); (case side1 => repeat (first | exact (Kd.S_reads' HO_26.out).2.2 | (with_reducible refine Kd.C_alloc ?_ _) | (with_reducible refine Kd.C_drewN ?_ _) | (with_reducible refine Kd.C_drew ?_))); (case side2 => exact (Kd.S_reads' HO_26.out).2.1); rintro e w179 ⟨v406, rfl, ho0, hb⟩; refine ⟨_, rfl, ?_⟩; have n0_ := Aside0.mk (Kd.R_elder' (by (with_reducible repeat (first | apply Kd.R_alloc | apply Kd.R_drewN | apply Kd.R_drew)); exact HO_25.out) (Kd.R_base ho0) hb); have n1_ := Aside0.mk (Kd.S_elder' (by (with_reducible repeat (first | apply Kd.S_alloc | apply Kd.S_drewN | apply Kd.S_drew)); exact HO_26.out) (Kd.R_base ho0) hb); have n2_ := Aside0.mk (Kd.R_lower (Kd.R_new' ho0 (Kd.R_lt (by (with_reducible repeat (first | apply Kd.R_alloc | apply Kd.R_drewN | apply Kd.R_drew)); exact HO_25.out))) (below_size (by repeat (first | (with_reducible first | exact HB.out | apply below_alloc | apply pw_below_drewN | apply below_drew1) | exact HB.out)))); have n3_ := Aside0.mk (below_step (by repeat (first | (with_reducible first | exact HB.out | apply below_alloc | apply pw_below_drewN | apply below_drew1) | exact HB.out)) hb); clear HO_25; clear HO_26; clear HB; have HO_25 := n0_; have HO_26 := n1_; have HO407 := n2_; have HB := n3_; clear n0_ n1_ n2_ n3_; (try clear hb); (try clear hb2); (try clear hk); (try clear hi); (try clear ho0)) | ((with_reducible refine gate_callee (f := 18) rfl ?_); refine goesL_ (some 221) rfl rfl Tryd.func18 (by kernel_rfl) rfl #[.slice Ao178 t394.length co178] rfl (by (try simp only [List.map_toArray, List.map_cons, List.map_nil]); first | done | rfl | (simp only [List.length_drop, List.length_take]; rfl)) ?_; (with_reducible refine (impl_CountPlacings.calls _ _ t394 t408 t409 _ ?side1 ?side2 A145.out).mono ?_); (case side1 => repeat (first | exact (Kd.S_reads' HO_26.out).2.2 | (with_reducible refine Kd.C_alloc ?_ _) | (with_reducible refine Kd.C_drewN ?_ _) | (with_reducible refine Kd.C_drew ?_))); (case side2 => exact (Kd.S_reads' HO_26.out).2.1); rintro e w180 ⟨rfl, hb⟩; refine ⟨_, rfl, ?_⟩; have n0_ := Aside0.mk (Kd.R_below (by (with_reducible repeat (first | apply Kd.R_alloc | apply Kd.R_drewN | apply Kd.R_drew)); exact HO_25.out) hb); have n1_ := Aside0.mk (Kd.S_below (by (with_reducible repeat (first | apply Kd.S_alloc | apply Kd.S_drewN | apply Kd.S_drew)); exact HO_26.out) hb); have n2_ := Aside0.mk (Kd.R_below (by (with_reducible repeat (first | apply Kd.R_alloc | apply Kd.R_drewN | apply Kd.R_drew)); exact HO407.out) hb); have n3_ := Aside0.mk (below_step (by repeat (first | (with_reducible first | exact HB.out | apply below_alloc | apply pw_below_drewN | apply below_drew1) | exact HB.out)) hb); clear HO_25; clear HO_26; clear HO407; clear HB; have HO_25 := n0_; have HO_26 := n1_; have HO407 := n2_; have HB := n3_; clear n0_ n1_ n2_ n3_; (try clear hb); (try clear hb2); (try clear hk); (try clear hi)) | ((with_reducible refine gate_callee (f := 27) rfl ?_); refine goesL_ (some 226) rfl rfl Tryd.func27 (by kernel_rfl) rfl #[.slice Ao178 t394.length co178] rfl (by (try simp only [List.map_toArray, List.map_cons, List.map_nil]); first | done | rfl | (simp only [List.length_drop, List.length_take]; rfl)) ?_; (with_reducible refine (impl_EqualSum.calls kj128 _ _ t394 t410 t411 _ ?side1 ?side2 A146.out).mono ?_); (case side1 => repeat (first | exact (Kd.S_reads' HO_26.out).2.2 | (with_reducible refine Kd.C_alloc ?_ _) | (with_reducible refine Kd.C_drewN ?_ _) | (with_reducible refine Kd.C_drew ?_))); (case side2 => exact (Kd.S_reads' HO_26.out).2.1); rintro e w181 ⟨rfl, hb⟩; refine ⟨_, rfl, ?_⟩; have n0_ := Aside0.mk (Kd.R_below (by (with_reducible repeat (first | apply Kd.R_alloc | apply Kd.R_drewN | apply Kd.R_drew)); exact HO_25.out) hb); have n1_ := Aside0.mk (Kd.S_below (by (with_reducible repeat (first | apply Kd.S_alloc | apply Kd.S_drewN | apply Kd.S_drew)); exact HO_26.out) hb); have n2_ := Aside0.mk (Kd.R_below (by (with_reducible repeat (first | apply Kd.R_alloc | apply Kd.R_drewN | apply Kd.R_drew)); exact HO407.out) hb); have n3_ := Aside0.mk (below_step (by repeat (first | (with_reducible first | exact HB.out | apply below_alloc | apply pw_below_drewN | apply below_drew1) | exact HB.out)) hb); clear HO_25; clear HO_26; clear HO407; clear HB; have HO_25 := n0_; have HO_26 := n1_; have HO407 := n2_; have HB := n3_; clear n0_ n1_ n2_ n3_; (try clear hb); (try clear hb2); (try clear hk); (try clear hi)))
                   go_ret
                   exact ⟨by first | rfl | (simp [errW_none, errW_some] <;> rfl) | (simp [*, errW_none, errW_some] <;> rfl), by repeat (first | (with_reducible first | exact HB.out | apply below_alloc | apply pw_below_drewN | apply below_drew1) | exact HB.out)⟩
               · replace c143 := Bool.eq_false_iff.mpr c143
                 subst c143
                 have H1 : (some true) = some r := by rw [if_neg (show ¬ (false = true) by decide)] at H; exact H
                 clear H
                 have H := H1
                 clear H1
                 obtain rfl := Option.some.inj H
                 go_wp2
                 go_ret
                 exact ⟨by first | rfl | (simp [errW_none, errW_some] <;> rfl) | (simp [*, errW_none, errW_some] <;> rfl), by repeat (first | (with_reducible first | exact HB.out | apply below_alloc | apply pw_below_drewN | apply below_drew1) | exact HB.out)⟩

/-- THE ONE PURE STATEMENT of laws_FnPlacingsOrRows: yours. -/
def laws_FnPlacingsOrRows.Pure : Prop := ∀ (l0 : List Int) (l1 : List Int), l0.length ≤ maxLen → l0.length * 1 ≤ 140737488351232 → (∀ x ∈ l0, (Lit.int .u8 x).wf = true) → l1.length ≤ maxLen → l1.length * 1 ≤ 140737488351232 → (∀ x ∈ l1, (Lit.int .u8 x).wf = true) → ∃ k, laws_FnPlacingsOrRows.f k l0 l1 = some true
theorem laws_FnPlacingsOrRows.walk (P : laws_FnPlacingsOrRows.Pure) (a0 : Option Addr) (len0 cap0 : Nat) (z0 : List Int) (a1 : Option Addr) (len1 cap1 : Nat) (z1 : List Int) (w : World) (w0 : (a0 = none ∧ len0 = 0 ∧ cap0 = 0 ∧ z0 = []) ∨ ∃ x, a0 = some x ∧ len0 ≤ cap0 ∧ cap0 ≤ maxLen ∧ z0.length = cap0 ∧ (∀ i, i < z0.length → w.cell? (x.add i) = some (.int .u8 (z0.getD i 0))) ∧ ∀ n ∈ z0, (Lit.int .u8 n).wf = true) (y0 : len0 * 1 ≤ 140737488351232) (w1 : (a1 = none ∧ len1 = 0 ∧ cap1 = 0 ∧ z1 = []) ∨ ∃ x, a1 = some x ∧ len1 ≤ cap1 ∧ cap1 ≤ maxLen ∧ z1.length = cap1 ∧ (∀ i, i < z1.length → w.cell? (x.add i) = some (.int .u8 (z1.getD i 0))) ∧ ∀ n ∈ z1, (Lit.int .u8 n).wf = true) (y1 : len1 * 1 ≤ 140737488351232) (hT : TabZ w) :
 Calls Tryd.prog 4 #[.slice a0 len0 cap0, .slice a1 len1 cap1] w fun e w' => e = .returned (.bool true) ∧ Below w.heap.size w w' := by
 have HT := Aside0.mk hT
 clear hT
 have HB := Aside0.mk (Below.refl w.heap.size w)
 obtain ⟨l0, rfl, hr0, hm0, hw0, hc0⟩ := ReadsInt.ofRowC w0
 obtain ⟨l1, rfl, hr1, hm1, hw1, hc1⟩ := ReadsInt.ofRowC w1
 obtain ⟨k, h⟩ := P l0 l1 hm0 y0 hw0 hm1 y1 hw1
 refine (laws_FnPlacingsOrRows.calls k _ _ l0 _ _ l1 true w (Kd.C_of_reads (d := (0 : Int)) (h1 := fun _ => rfl) hr0) hc0 (Kd.C_of_reads (d := (0 : Int)) (h1 := fun _ => rfl) hr1) hc1 h).mono ?_
 rintro e w' ⟨rfl, hd⟩
 exact ⟨rfl, hd⟩

end Go.Proofs.YtgcgecbdmomceaaDoor.A

namespace Go.Proofs.YtgcgecbdmomceaaDoor.A
open Go.RowKit Go.Proofs.YtgcgecbdmomceaaDoorW.PrintWords Go.Proofs.YtgcgecbdmomceaaDoorW.PrintLast Go.Proofs.YtgcgecbdmomceaaDoorW.PrintMore
set_option linter.unusedVariables false
set_option linter.unusedSimpArgs false
theorem foldl_add : ∀ (l : List Int) (s : Int), l.foldl (fun s x => s + x) s = s + l.sum
 | [], s => by simp
 | x :: l, s => by
  rw [List.foldl_cons, foldl_add l, List.sum_cons]
  omega
end Go.Proofs.YtgcgecbdmomceaaDoor.A

-- made by a program of this repo (wip/pp.py) through the kit's printer
namespace Go.Proofs.YtgcgecbdmomceaaDoor.A
open Go.RowKit Go.Proofs.YtgcgecbdmomceaaDoorW.PrintWords Go.Proofs.YtgcgecbdmomceaaDoorW.PrintLast Go.Proofs.YtgcgecbdmomceaaDoorW.PrintMore
attribute [local go_sem] max2_int min2_int max_two min_two max_three min_three max_four min_four
set_option linter.unusedVariables false
set_option linter.unusedSimpArgs false

end Go.Proofs.YtgcgecbdmomceaaDoor.A

-- made by a program of this repo (wip/pp.py) through the kit's printer
namespace Go.Proofs.YtgcgecbdmomceaaDoor.A
open Go.RowKit Go.Proofs.YtgcgecbdmomceaaDoorW.PrintWords Go.Proofs.YtgcgecbdmomceaaDoorW.PrintLast Go.Proofs.YtgcgecbdmomceaaDoorW.PrintMore
attribute [local go_sem] max2_int min2_int max_two min_two max_three min_three max_four min_four
set_option linter.unusedVariables false
set_option linter.unusedSimpArgs false

end Go.Proofs.YtgcgecbdmomceaaDoor.A

-- made by a program of this repo (wip/pp.py) through the kit's printer
namespace Go.Proofs.YtgcgecbdmomceaaDoor.A
open Go.RowKit Go.Proofs.YtgcgecbdmomceaaDoorW.PrintWords Go.Proofs.YtgcgecbdmomceaaDoorW.PrintLast Go.Proofs.YtgcgecbdmomceaaDoorW.PrintMore
attribute [local go_sem] max2_int min2_int max_two min_two max_three min_three max_four min_four
set_option linter.unusedVariables false
set_option linter.unusedSimpArgs false

end Go.Proofs.YtgcgecbdmomceaaDoor.A

namespace Go.Proofs.YtgcgecbdmomceaaDoor.A
open Go.RowKit Go.Proofs.YtgcgecbdmomceaaDoorW.PrintWords Go.Proofs.YtgcgecbdmomceaaDoorW.PrintLast Go.Proofs.YtgcgecbdmomceaaDoorW.PrintMore
set_option linter.unusedVariables false
set_option linter.unusedSimpArgs false
end Go.Proofs.YtgcgecbdmomceaaDoor.A

-- made by a program of this repo (wip/pp.py) through the kit's printer
namespace Go.Proofs.YtgcgecbdmomceaaDoor.A
open Go.RowKit Go.Proofs.YtgcgecbdmomceaaDoorW.PrintWords Go.Proofs.YtgcgecbdmomceaaDoorW.PrintLast Go.Proofs.YtgcgecbdmomceaaDoorW.PrintMore
attribute [local go_sem] max2_int min2_int max_two min_two max_three min_three max_four min_four
set_option linter.unusedVariables false
set_option linter.unusedSimpArgs false

end Go.Proofs.YtgcgecbdmomceaaDoor.A

namespace Go.Proofs.YtgcgecbdmomceaaDoor.A
open Go.RowKit Go.Proofs.YtgcgecbdmomceaaDoorW.PrintWords Go.Proofs.YtgcgecbdmomceaaDoorW.PrintLast Go.Proofs.YtgcgecbdmomceaaDoorW.PrintMore
set_option linter.unusedVariables false
set_option linter.unusedSimpArgs false
end Go.Proofs.YtgcgecbdmomceaaDoor.A

namespace Go.Proofs.YtgcgecbdmomceaaDoor.A
open Go.RowKit Go.Proofs.YtgcgecbdmomceaaDoorW.PrintWords Go.Proofs.YtgcgecbdmomceaaDoorW.PrintLast Go.Proofs.YtgcgecbdmomceaaDoorW.PrintMore
set_option linter.unusedVariables false
set_option linter.unusedSimpArgs false
def totSS (l : List (List Int)) : Nat := (l.map List.length).sum
end Go.Proofs.YtgcgecbdmomceaaDoor.A

namespace Go.Proofs.YtgcgecbdmomceaaDoor.A
open Go.RowKit Go.Proofs.YtgcgecbdmomceaaDoorW.PrintWords Go.Proofs.YtgcgecbdmomceaaDoorW.PrintLast Go.Proofs.YtgcgecbdmomceaaDoorW.PrintMore
set_option linter.unusedVariables false
set_option linter.unusedSimpArgs false
theorem rd_L1n {xs : List (List Int)} {i : Nat} (h : i < xs.length) : rd_L1 xs (i : Int) = xs[i] := by
 unfold rd_L1
 rw [Int.toNat_natCast, List.getD_eq_getElem?_getD, List.getElem?_eq_getElem h]
 rfl
theorem len_tot {l : List (List Int)} {x : List Int} (h : x ∈ l) : x.length ≤ totSS l := by
 induction l with
 | nil => simp at h
 | cons y l ih =>
  simp only [totSS, List.map_cons, List.sum_cons] at *
  rcases List.mem_cons.1 h with rfl | h
  · omega
  · have := ih h
    omega
end Go.Proofs.YtgcgecbdmomceaaDoor.A

namespace Go.Proofs.YtgcgecbdmomceaaDoor.A
open Go.RowKit Go.Proofs.YtgcgecbdmomceaaDoorW.PrintWords Go.Proofs.YtgcgecbdmomceaaDoorW.PrintLast Go.Proofs.YtgcgecbdmomceaaDoorW.PrintMore
set_option linter.unusedVariables false
set_option linter.unusedSimpArgs false
theorem doGood_l (l : List (List Int)) (hl : l.length ≤ 1048576) (hx : ∀ x ∈ l, x.length ≤ 1048576) : ∀ (n i : Nat), i + n = l.length → Ev (fun k => spec_doGood.l0 k l l (l.length : Int) (i : Int)) (((l.drop i).all (rowB l.length)) && decide ((1 : Int) ≤ l.length ∧ (l.length : Int) ≤ 6))
 | 0, i, h => by
  refine Ev.succ ?_
  simp only [spec_doGood.l0, if_neg (show ¬ (i : Int) < (l.length : Int) by omega), l1In_eq, Option.bind_some]
  rw [List.drop_eq_nil_of_le (by omega), List.all_nil, Bool.true_and]
  exact Ev.now _
 | n + 1, i, h => by
  have hi : i < l.length := by omega
  have hxi := hx _ (List.getElem_mem hi)
  refine Ev.succ ?_
  simp only [spec_doGood.l0, if_pos (show (i : Int) < (l.length : Int) by omega), if_pos (show (0 : Int) ≤ (i : Int) by omega), rd_L1n hi, wsucc hi (by omega)]
  rw [List.drop_eq_getElem_cons hi, List.all_cons]
  by_cases c : ((l[i]).length : Int) = (l.length : Int)
  · simp only [if_pos c]
    refine Ev.bind (l1All_ev l[i] 0 1000000 (by omega)) ?_
    have e : rowB l.length l[i] = inR 0 1000000 l[i] := by
     unfold rowB
     rw [decide_eq_true c, Bool.true_and]
    rw [e]
    cases inR 0 1000000 l[i] with
    | true =>
     simp only [if_true, Bool.true_and]
     exact doGood_l l hl hx n (i + 1) (by omega)
    | false =>
     simp only [Bool.false_eq_true, if_false, Bool.false_and]
     exact Ev.now _
  · have e : rowB l.length l[i] = false := by
     unfold rowB
     rw [decide_eq_false c, Bool.false_and]
    simp only [if_neg c, e, Bool.false_and]
    exact Ev.now _
theorem doGood_ev (l : List (List Int)) (hl : l.length ≤ 1048576) (ht : totSS l ≤ 1048576) : Ev (fun k => spec_doGood.f k l) (squareB l) := by
 have h := doGood_l l hl (fun x h => Nat.le_trans (len_tot h) ht) l.length 0 (by omega)
 rw [List.drop_zero, Bool.and_comm] at h
 exact h
theorem implIsSquare_eq (l : List (List Int)) (hl : l.length ≤ 1048576) (ht : totSS l ≤ 1048576) : impl_IsSquare.f l = some (squareB l) := by
 unfold impl_IsSquare.f
 rw [if_pos ⟨List.all_eq_true.2 fun x h => decide_eq_true (Nat.le_trans (len_tot h) ht), hl⟩]
end Go.Proofs.YtgcgecbdmomceaaDoor.A

namespace Go.Proofs.YtgcgecbdmomceaaDoor.A
open Go.RowKit Go.Proofs.YtgcgecbdmomceaaDoorW.PrintWords Go.Proofs.YtgcgecbdmomceaaDoorW.PrintLast Go.Proofs.YtgcgecbdmomceaaDoorW.PrintMore
set_option linter.unusedVariables false
set_option linter.unusedSimpArgs false
def Bg (l : List Int) : Prop := l.length ≤ 1000 ∧ ∀ x ∈ l, 0 ≤ x ∧ x ≤ 1000000
theorem totalB_ev (l : List Int) (h : Bg l) : Ev (fun k => impl_total.f k l) l.sum := by
 unfold impl_total.f
 have hl := h.1
 have h := ev_fold (xs := l) (g := fun k s i => impl_total.l0 k s l (l.length : Int) i) (fun s x => s + x) (fun s i => 0 ≤ s ∧ s ≤ 1000000 * (i : Int)) id
  (fun s _ => Ev.succ (by simp only [impl_total.l0, if_neg (Int.lt_irrefl _)]; exact Ev.now _))
  (fun i hi s r hs _ hr => Ev.succ (by
   have hb := h.2 _ (List.getElem_mem hi)
   simp only [impl_total.l0, if_pos (show (i : Int) < (l.length : Int) by omega), if_pos (show (0 : Int) ≤ (i : Int) by omega), rdn hi, wsucc hi (by omega), w64 (x := s + l[i]) (by omega) (by omega)]
   exact hr))
  (fun i hi s hs => by
   have hb := h.2 _ (List.getElem_mem hi)
   omega) l.length 0 0 (by omega) (by omega)
 rw [List.drop_zero, foldl_add, Int.zero_add] at h
 exact h
def okI (l : List (List Int)) (s : Int) (i : Nat) : Bool := decide ((l.getD i []).sum = s) && decide (((l.map fun x => rd x (i : Int)).sum) = s)
theorem colP_step {l : List (List Int)} {i j : Nat} (hj : j < l.length) : ((l.take (j + 1)).map fun x => rd x (i : Int)).sum = ((l.take j).map fun x => rd x (i : Int)).sum + rd l[j] (i : Int) := by
 rw [List.take_succ_eq_append_getElem hj, List.map_append, List.sum_append]
 simp
structure Tab (l : List (List Int)) : Prop where
 len : l.length ≤ 6
 row : ∀ x ∈ l, x.length = l.length ∧ ∀ y ∈ x, 0 ≤ y ∧ y ≤ 1000000
theorem tab_bg {l : List (List Int)} (h : Tab l) {x : List Int} (hx : x ∈ l) : Bg x := ⟨by have := (h.row x hx).1; have := h.len; omega, (h.row x hx).2⟩
theorem tab_rd {l : List (List Int)} (h : Tab l) {x : List Int} (hx : x ∈ l) {i : Nat} (hi : i < l.length) : 0 ≤ rd x (i : Int) ∧ rd x (i : Int) ≤ 1000000 := by
 have h1 := (h.row x hx).1
 rw [rdn (show i < x.length by omega)]
 exact (h.row x hx).2 _ (List.getElem_mem (by omega))
theorem colP_bd {l : List (List Int)} (h : Tab l) {i : Nat} (hi : i < l.length) : ∀ j : Nat, j ≤ l.length → 0 ≤ ((l.take j).map fun x => rd x (i : Int)).sum ∧ ((l.take j).map fun x => rd x (i : Int)).sum ≤ 1000000 * j
 | 0, _ => by simp
 | j + 1, hj => by
  have ih := colP_bd h hi j (by omega)
  have hb := tab_rd h (List.getElem_mem (show j < l.length by omega)) hi
  rw [colP_step (by omega)]
  omega
theorem implSum_l1 {l : List (List Int)} (h : Tab l) (s : Int) (i : Nat) (hi : i < l.length) (x : List Int) {r : Int × Bool} (hr : Ev (fun k => (impl_total.f k x).bind fun t => if t = s then (if (l.map fun x => rd x (i : Int)).sum = s then impl_equalSum.l0 k l s l (l.length : Int) (wrap64 ((i : Int) + 1)) else some ((0 : Int), false)) else some ((0 : Int), false)) r) : ∀ (n j : Nat), j + n = l.length → Ev (fun k => impl_equalSum.l1 k l s (i : Int) x (((l.take j).map fun x => rd x (i : Int)).sum) l (l.length : Int) (i : Int) l (l.length : Int) (j : Int)) r
 | 0, j, e => by
  refine Ev.succ ?_
  simp only [impl_equalSum.l1, if_neg (show ¬ (j : Int) < (l.length : Int) by omega)]
  rw [List.take_of_length_le (by omega)]
  exact hr
 | n + 1, j, e => by
  have hj : j < l.length := by omega
  have hlen := (h.row _ (List.getElem_mem hj)).1
  have b1 := colP_bd h hi j (by omega)
  have b2 := tab_rd h (List.getElem_mem hj) hi
  have b3 := h.len
  refine Ev.succ ?_
  simp only [impl_equalSum.l1, if_pos (show (j : Int) < (l.length : Int) by omega), if_pos (show (0 : Int) ≤ (j : Int) by omega), if_pos (show (0 : Int) ≤ (i : Int) by omega), rd_L1n hj, if_pos (show (i : Int) < ((l[j]).length : Int) by omega), wsucc hj (by omega), w64 (x := ((l.take j).map fun x => rd x (i : Int)).sum + rd l[j] (i : Int)) (by omega) (by omega)]
  rw [← colP_step hj]
  exact implSum_l1 h s i hi x hr n (j + 1) (by omega)
theorem implSum_l0 {l : List (List Int)} (h : Tab l) (s : Int) : ∀ (n i : Nat), i + n = l.length → Ev (fun k => impl_equalSum.l0 k l s l (l.length : Int) (i : Int)) (if (List.range' i n).all (okI l s) = true then (s, true) else ((0 : Int), false))
 | 0, i, e => by
  refine Ev.succ ?_
  simp only [impl_equalSum.l0, if_neg (show ¬ (i : Int) < (l.length : Int) by omega), List.range'_zero, List.all_nil, if_true]
  exact Ev.now _
 | n + 1, i, e => by
  have hi : i < l.length := by omega
  refine Ev.succ ?_
  simp only [impl_equalSum.l0, if_pos (show (i : Int) < (l.length : Int) by omega), if_pos (show (0 : Int) ≤ (i : Int) by omega), rd_L1n hi]
  have key := implSum_l1 h s i hi l[i] (r := if (List.range' i (n + 1)).all (okI l s) = true then (s, true) else ((0 : Int), false)) ?_ l.length 0 (by omega)
  · simp only [List.take_zero, List.map_nil, List.sum_nil] at key
    exact key
  · have ho : okI l s i = (decide ((l[i]).sum = s) && decide (((l.map fun x => rd x (i : Int)).sum) = s)) := by
     unfold okI
     rw [List.getD_eq_getElem?_getD, List.getElem?_eq_getElem hi]
     rfl
    refine Ev.bind (totalB_ev l[i] (tab_bg h (List.getElem_mem hi))) ?_
    rw [List.range'_succ, List.all_cons, ho]
    by_cases c1 : (l[i]).sum = s
    · simp only [if_pos c1]
      by_cases c2 : (l.map fun x => rd x (i : Int)).sum = s
      · simp only [if_pos c2, wsucc hi (by have := h.len; omega), decide_eq_true c1, decide_eq_true c2, Bool.true_and]
        exact implSum_l0 h s n (i + 1) (by omega)
      · simp only [if_neg c2, decide_eq_false c2, Bool.and_false, Bool.false_and, Bool.false_eq_true, if_false]
        exact Ev.now _
    · simp only [if_neg c1, decide_eq_false c1, Bool.false_and, Bool.false_eq_true, if_false]
      exact Ev.now _
theorem square_tab {l : List (List Int)} (h : squareB l = true) : Tab l ∧ 1 ≤ l.length := by
 unfold squareB at h
 rw [Bool.and_eq_true, decide_eq_true_eq, List.all_eq_true] at h
 refine ⟨⟨by omega, fun x hx => ?_⟩, by omega⟩
 have hr := h.2 x hx
 unfold rowB inR at hr
 rw [Bool.and_eq_true, decide_eq_true_eq, List.all_eq_true] at hr
 exact ⟨by omega, fun y hy => by simpa using hr.2 y hy⟩
def sum0 (l : List (List Int)) : Int := (l.getD 0 []).sum
def equalR (l : List (List Int)) : Int × Bool := if squareB l = true then (if (List.range' 0 l.length).all (okI l (sum0 l)) = true then (sum0 l, true) else (0, false)) else (0, false)
theorem sum0_at {l : List (List Int)} (h : 0 < l.length) : sum0 l = (l[0]).sum := by
 unfold sum0
 rw [List.getD_eq_getElem?_getD, List.getElem?_eq_getElem h]
 rfl
theorem implEqualSum_ev (l : List (List Int)) (hl : l.length ≤ 1048576) (ht : totSS l ≤ 1048576) : Ev (fun k => impl_EqualSum.f k l) (equalR l) := by
 unfold impl_EqualSum.f equalR
 simp only [implIsSquare_eq l hl ht, Option.bind_some]
 refine Ev.ite (fun hq => ?_) (fun _ => Ev.now _)
 obtain ⟨hT, h1⟩ := square_tab hq
 have hd : Ev (fun k => impl_equalSum.f k l) (if (List.range' 0 l.length).all (okI l (sum0 l)) = true then (sum0 l, true) else (0, false)) := by
  unfold impl_equalSum.f
  simp only [if_pos (show (0 : Int) < (l.length : Int) by omega)]
  have e : rd_L1 l 0 = l[0] := rd_L1n (i := 0) (by omega)
  rw [e]
  refine Ev.bind (totalB_ev l[0] (tab_bg hT (List.getElem_mem (by omega)))) ?_
  rw [← sum0_at (by omega)]
  exact implSum_l0 hT (sum0 l) l.length 0 (by omega)
 exact Ev.bind hd (Ev.now _)
end Go.Proofs.YtgcgecbdmomceaaDoor.A

namespace Go.Proofs.YtgcgecbdmomceaaDoor.A
open Go.RowKit Go.Proofs.YtgcgecbdmomceaaDoorW.PrintWords Go.Proofs.YtgcgecbdmomceaaDoorW.PrintLast Go.Proofs.YtgcgecbdmomceaaDoorW.PrintMore
set_option linter.unusedVariables false
set_option linter.unusedSimpArgs false
/-! tables told by a function of row and column -/
def tabG (n : Nat) (G : Nat → Nat → Int) : List (List Int) := (List.range n).map fun i => (List.range n).map fun j => G i j
theorem tabG_length (n : Nat) (G : Nat → Nat → Int) : (tabG n G).length = n := by simp [tabG]
theorem tabG_get {n : Nat} {G : Nat → Nat → Int} {i : Nat} (h : i < (tabG n G).length) : (tabG n G)[i] = (List.range n).map fun j => G i j := by simp [tabG]
theorem tabG_row {n : Nat} (G : Nat → Nat → Int) {i : Nat} (h : i < n) : rd_L1 (tabG n G) (i : Int) = (List.range n).map fun j => G i j := by
 rw [rd_L1n (by rw [tabG_length]; exact h), tabG_get]
theorem tabG_rowlen {n : Nat} (G : Nat → Nat → Int) {i : Nat} (h : i < n) : (rd_L1 (tabG n G) (i : Int)).length = n := by rw [tabG_row G h]; simp
theorem rowG_at {n : Nat} (g : Nat → Int) {j : Nat} (h : j < n) : rd ((List.range n).map g) (j : Int) = g j := by
 rw [rdn (by simpa using h)]
 simp
theorem tabG_at {n : Nat} (G : Nat → Nat → Int) {i j : Nat} (h : i < n) (h' : j < n) : rd (rd_L1 (tabG n G) (i : Int)) (j : Int) = G i j := by rw [tabG_row G h, rowG_at _ h']
theorem tabG_congr {n : Nat} {G G' : Nat → Nat → Int} (h : ∀ i j, i < n → j < n → G i j = G' i j) : tabG n G = tabG n G' := by
 unfold tabG
 refine List.map_congr_left fun i hi => List.map_congr_left fun j hj => h i j (List.mem_range.1 hi) (List.mem_range.1 hj)
def updG (G : Nat → Nat → Int) (i j : Nat) (v : Int) : Nat → Nat → Int := fun a b => if a = i ∧ b = j then v else G a b
theorem rowG_set {n : Nat} (g : Nat → Int) (j : Nat) (v : Int) : ((List.range n).map g).set j v = (List.range n).map fun b => if b = j then v else g b := by
 apply List.ext_getElem
 · simp
 · intro k h1 h2
   simp only [List.length_map, List.length_range, List.length_set] at h1 h2
   rw [List.getElem_set]
   by_cases e : j = k
   · subst e
     simp
   · have e' : ¬ k = j := fun h => e h.symm
     simp [e, e']
theorem tabG_set {n : Nat} (G : Nat → Nat → Int) {i : Nat} (j : Nat) (v : Int) (h : i < n) : (tabG n G).set i ((rd_L1 (tabG n G) (i : Int)).set j v) = tabG n (updG G i j v) := by
 rw [tabG_row G h, rowG_set]
 apply List.ext_getElem
 · simp [tabG]
 · intro k h1 h2
   rw [List.length_set, tabG_length] at h1
   rw [List.getElem_set, tabG_get, tabG_get]
   by_cases e : i = k
   · subst e
     rw [if_pos rfl]
     refine List.map_congr_left fun b _ => ?_
     unfold updG
     by_cases e2 : b = j <;> simp [e2]
   · rw [if_neg e]
     refine List.map_congr_left fun b _ => ?_
     unfold updG
     rw [if_neg (fun h => e h.1.symm)]
theorem tabG_zero (n : Nat) : List.replicate n (List.replicate n (0 : Int)) = tabG n (fun _ _ => 0) := by
 unfold tabG
 apply List.ext_getElem
 · simp
 · intro k h1 h2
   simp only [List.getElem_replicate, List.getElem_map]
   apply List.ext_getElem
   · simp
   · intro k h1 h2
     simp
def atG (l : List (List Int)) (i j : Nat) : Int := rd (rd_L1 l (i : Int)) (j : Int)
theorem atG_tab {n : Nat} (G : Nat → Nat → Int) {i j : Nat} (h : i < n) (h' : j < n) : atG (tabG n G) i j = G i j := tabG_at G h h'
theorem tabG_tot (n : Nat) (G : Nat → Nat → Int) : totSS (tabG n G) = n * n := by
 unfold totSS tabG
 rw [List.map_map]
 have : ∀ m : Nat, ((List.range m).map (List.length ∘ fun i => (List.range n).map fun j => G i j)).sum = m * n := by
  intro m
  induction m with
  | zero => simp
  | succ m ih => rw [List.range_succ, List.map_append, List.sum_append, ih]; simp [Nat.succ_mul]
 exact this n
end Go.Proofs.YtgcgecbdmomceaaDoor.A

namespace Go.Proofs.YtgcgecbdmomceaaDoor.A
open Go.RowKit Go.Proofs.YtgcgecbdmomceaaDoorW.PrintWords Go.Proofs.YtgcgecbdmomceaaDoorW.PrintLast Go.Proofs.YtgcgecbdmomceaaDoorW.PrintMore
set_option linter.unusedVariables false
set_option linter.unusedSimpArgs false
theorem tab_rowlen {l : List (List Int)} (h : Tab l) {i : Nat} (hi : i < l.length) : (rd_L1 l (i : Int)).length = l.length := by
 rw [rd_L1n hi]
 exact (h.row _ (List.getElem_mem hi)).1
end Go.Proofs.YtgcgecbdmomceaaDoor.A

namespace Go.Proofs.YtgcgecbdmomceaaDoor.A
open Go.RowKit Go.Proofs.YtgcgecbdmomceaaDoorW.PrintWords Go.Proofs.YtgcgecbdmomceaaDoorW.PrintLast Go.Proofs.YtgcgecbdmomceaaDoorW.PrintMore
set_option linter.unusedVariables false
set_option linter.unusedSimpArgs false
theorem l1Has_l (xs : List Int) (x : Int) (hx : xs.length ≤ 9223372036854775807) : ∀ (n i : Nat), i + n = xs.length → Ev (fun k => spec_l1Has.l0 k x xs (xs.length : Int) (i : Int)) (decide (x ∈ xs.drop i))
 | 0, i, h => by
  refine Ev.succ ?_
  simp only [spec_l1Has.l0, if_neg (show ¬ (i : Int) < (xs.length : Int) by omega)]
  rw [List.drop_eq_nil_of_le (by omega), decide_eq_false (by simp)]
  exact Ev.now _
 | n + 1, i, h => by
  have hi : i < xs.length := by omega
  refine Ev.succ ?_
  simp only [spec_l1Has.l0, if_pos (show (i : Int) < (xs.length : Int) by omega), if_pos (show (0 : Int) ≤ (i : Int) by omega), rdn hi, wsucc hi hx]
  rw [List.drop_eq_getElem_cons hi]
  by_cases c : xs[i] = x
  · simp only [if_pos c]
    rw [decide_eq_true (by rw [c]; exact List.mem_cons_self)]
    exact Ev.now _
  · simp only [if_neg c, List.mem_cons, show ¬ x = xs[i] from fun e => c e.symm, false_or]
    exact l1Has_l xs x hx n (i + 1) (by omega)
theorem l1Has_ev (xs : List Int) (x : Int) (hx : xs.length ≤ 9223372036854775807) : Ev (fun k => spec_l1Has.f k xs x) (decide (x ∈ xs)) := l1Has_l xs x hx xs.length 0 (by omega)
end Go.Proofs.YtgcgecbdmomceaaDoor.A

namespace Go.Proofs.YtgcgecbdmomceaaDoor.A
open Go.RowKit Go.Proofs.YtgcgecbdmomceaaDoorW.PrintWords Go.Proofs.YtgcgecbdmomceaaDoorW.PrintLast Go.Proofs.YtgcgecbdmomceaaDoorW.PrintMore
set_option linter.unusedVariables false
set_option linter.unusedSimpArgs false
/-! all placings of a table, in order -/
def plc (l : List (List Int)) : Nat → List Int → List (List Int)
 | 0, p => [p]
 | m + 1, p => (List.range (rd_L1 l (p.length : Int)).length).flatMap fun (j : Nat) => if rd (rd_L1 l (p.length : Int)) (j : Int) > 0 then (if (j : Int) ∈ p then [] else plc l m (p ++ [(j : Int)])) else []
def plcAt (l : List (List Int)) (m : Nat) (p : List Int) (j : Nat) : List (List Int) := if rd (rd_L1 l (p.length : Int)) (j : Int) > 0 then (if (j : Int) ∈ p then [] else plc l m (p ++ [(j : Int)])) else []
theorem plc_succ (l : List (List Int)) (m : Nat) (p : List Int) : plc l (m + 1) p = (List.range (rd_L1 l (p.length : Int)).length).flatMap (plcAt l m p) := rfl
theorem range_drop {n i : Nat} (h : i < n) : (List.range n).drop i = i :: (List.range n).drop (i + 1) := by
 rw [List.drop_eq_getElem_cons (by simpa using h)]
 simp
/-- What is found from column i on. -/
def plcFrom (l : List (List Int)) (m : Nat) (p : List Int) (i : Nat) : List (List Int) := ((List.range (rd_L1 l (p.length : Int)).length).drop i).flatMap (plcAt l m p)
theorem plcFrom_zero (l : List (List Int)) (m : Nat) (p : List Int) : plcFrom l m p 0 = plc l (m + 1) p := by
 unfold plcFrom
 rw [List.drop_zero, plc_succ]
theorem plcFrom_end (l : List (List Int)) (m : Nat) (p : List Int) : plcFrom l m p (rd_L1 l (p.length : Int)).length = [] := by
 unfold plcFrom
 rw [List.drop_eq_nil_of_le (by simp)]
 rfl
theorem plcFrom_step (l : List (List Int)) (m : Nat) (p : List Int) {i : Nat} (h : i < (rd_L1 l (p.length : Int)).length) : plcFrom l m p i = plcAt l m p i ++ plcFrom l m p (i + 1) := by
 unfold plcFrom
 rw [range_drop h, List.flatMap_cons]
theorem take_add_take {α : Type} (a b : List α) (n : Nat) : a.take n ++ (b.take (n - (a.take n).length)) = (a ++ b).take n := by
 rw [List.take_append, List.length_take]
 congr 1
 by_cases h : n ≤ a.length
 · rw [Nat.min_eq_left h, show n - n = 0 by omega, show n - a.length = 0 by omega]
 · rw [Nat.min_eq_right (by omega)]
/-- The spec's list: the first ones. -/
theorem doPlc_ev (l : List (List Int)) (hl : l.length ≤ 6) (hr : ∀ i, i < l.length → (rd_L1 l (i : Int)).length ≤ 1000) : ∀ (m : Nat) (p : List Int) (most : Nat), p.length + m = l.length → 1 ≤ most → most ≤ 1000 → Ev (fun k => spec_doPlacings.f k l p (most : Int)) ((plc l m p).take most)
 | 0, p, most, hm, h1, h2 => by
  refine Ev.succ ?_
  simp only [spec_doPlacings.f, if_pos (show (p.length : Int) = (l.length : Int) by omega)]
  unfold spec_l1Own.f
  simp only [Option.bind_some, List.length_nil, List.nil_append, if_pos (show 0 + p.length < 17592186044416 by omega)]
  unfold plc
  rw [List.take_of_length_le (by simpa using h1)]
  exact Ev.now _
 | m + 1, p, most, hm, h1, h2 => by
  refine Ev.succ ?_
  have hp : p.length < l.length := by omega
  simp only [spec_doPlacings.f, if_neg (show ¬ (p.length : Int) = (l.length : Int) by omega), if_pos (show (0 : Int) ≤ (p.length : Int) by omega), if_pos (show (p.length : Int) < (l.length : Int) by omega)]
  have hrl := hr p.length hp
  have key : ∀ (n i : Nat) (out : List (List Int)), i + n = (rd_L1 l (p.length : Int)).length → out.length ≤ most → (out ++ plcFrom l m p i).take most = (plc l (m + 1) p).take most →
   Ev (fun k => spec_doPlacings.l0 k l p (most : Int) out (rd_L1 l (p.length : Int)) ((rd_L1 l (p.length : Int)).length : Int) (i : Int)) ((plc l (m + 1) p).take most) := by
   intro n
   induction n with
   | zero =>
    intro i out hi ho he
    have ei : i = (rd_L1 l (p.length : Int)).length := by omega
    refine Ev.succ ?_
    simp only [spec_doPlacings.l0, if_neg (show ¬ (i : Int) < ((rd_L1 l (p.length : Int)).length : Int) by omega)]
    rw [ei, plcFrom_end, List.append_nil, List.take_of_length_le ho] at he
    rw [he]
    exact Ev.now _
   | succ n ih =>
    intro i out hi ho he
    have hlt : i < (rd_L1 l (p.length : Int)).length := by omega
    have skip : plcAt l m p i = [] → Ev (fun k => spec_doPlacings.l0 k l p (most : Int) out (rd_L1 l (p.length : Int)) ((rd_L1 l (p.length : Int)).length : Int) ((i + 1 : Nat) : Int)) ((plc l (m + 1) p).take most) := by
     intro h0
     refine ih (i + 1) out (by omega) ho ?_
     rw [plcFrom_step l m p hlt, h0, List.nil_append] at he
     exact he
    refine Ev.succ ?_
    simp only [spec_doPlacings.l0, if_pos (show (i : Int) < ((rd_L1 l (p.length : Int)).length : Int) by omega), if_pos (show (0 : Int) ≤ (i : Int) by omega)]
    by_cases c1 : rd (rd_L1 l (p.length : Int)) (i : Int) > 0
    · simp only [if_pos c1]
      refine Ev.bind (l1Has_ev p (i : Int) (by omega)) ?_
      by_cases c2 : (i : Int) ∈ p
      · simp only [decide_eq_true c2, if_true]
        refine Ev.succ ?_
        simp only [spec_doPlacings.j1, Bool.false_eq_true, if_false, wsucc hlt (by omega)]
        exact skip (by unfold plcAt; rw [if_pos c1, if_pos c2])
      · simp only [decide_eq_false c2, Bool.false_eq_true, if_false]
        refine Ev.succ ?_
        simp only [spec_doPlacings.j1, decide_eq_true_eq]
        by_cases c3 : (out.length : Int) < (most : Int)
        · simp only [if_pos c3]
          unfold spec_l1Own.f
          simp only [Option.bind_some, List.length_nil, List.nil_append, if_pos (show 0 + p.length < 17592186044416 by omega), if_pos (show p.length < 17592186044416 by omega), w64 (x := (most : Int) - (out.length : Int)) (by omega) (by omega)]
          rw [show (most : Int) - (out.length : Int) = ((most - out.length : Nat) : Int) by omega]
          refine Ev.bind (doPlc_ev l hl hr m (p ++ [(i : Int)]) (most - out.length) (by rw [List.length_append]; simp; omega) (by omega) (by omega)) ?_
          have hlen : ((plc l m (p ++ [(i : Int)])).take (most - out.length)).length ≤ most - out.length := by rw [List.length_take]; omega
          simp only [if_pos (show out.length + ((plc l m (p ++ [(i : Int)])).take (most - out.length)).length < 5864062014805 by omega), wsucc hlt (by omega)]
          refine ih (i + 1) _ (by omega) (by rw [List.length_append]; omega) ?_
          have e1 : out.take most = out := List.take_of_length_le ho
          have e2 : plcAt l m p i = plc l m (p ++ [(i : Int)]) := by unfold plcAt; rw [if_pos c1, if_neg c2]
          have e3 : out ++ (plc l m (p ++ [(i : Int)])).take (most - out.length) = (out ++ plcAt l m p i).take most := by
           rw [e2, ← take_add_take, e1]
          rw [e3, ← he, plcFrom_step l m p hlt, ← List.append_assoc]
          generalize out ++ plcAt l m p i = a
          rw [List.take_append, List.take_append, List.take_take, Nat.min_self, List.length_take]
          congr 1
          by_cases h : most ≤ a.length
          · rw [Nat.min_eq_left h, show most - most = 0 by omega, show most - a.length = 0 by omega]
          · rw [Nat.min_eq_right (by omega)]
        · simp only [if_neg c3, wsucc hlt (by omega)]
          refine ih (i + 1) out (by omega) ho ?_
          have e : out.length = most := by omega
          rw [← he, List.take_append, List.take_append, show most - out.length = 0 by omega, List.take_zero, List.take_zero]
    · simp only [if_neg c1]
      refine Ev.succ ?_
      simp only [spec_doPlacings.j1, Bool.false_eq_true, if_false, wsucc hlt (by omega)]
      exact skip (by unfold plcAt; rw [if_neg c1])
  have := key (rd_L1 l (p.length : Int)).length 0 [] (by omega) (by simp) (by rw [plcFrom_zero, List.nil_append])
  exact this
/-- The visits of the search, by the list. -/
theorem dfs_first (l : List (List Int)) : ∀ (m : Nat) (o : Option (List Int)) (p : List Int), dfs l firstStep m o p = match plc l m p with | [] => (o, true) | q :: _ => (some q, false)
 | 0, o, p => rfl
 | m + 1, o, p => by
  have key : ∀ (n i : Nat) (o : Option (List Int)), i + n = (rd_L1 l (p.length : Int)).length → loopB (fun s j => if rd (rd_L1 l (p.length : Int)) (j : Int) > 0 then (if (j : Int) ∈ p then (s, true) else dfs l firstStep m s (p ++ [(j : Int)])) else (s, true)) ((List.range (rd_L1 l (p.length : Int)).length).drop i) o = match plcFrom l m p i with | [] => (o, true) | q :: _ => (some q, false) := by
   intro n
   induction n with
   | zero =>
    intro i o hi
    have ei : i = (rd_L1 l (p.length : Int)).length := by omega
    rw [ei, loopB_end, plcFrom_end]
   | succ n ih =>
    intro i o hi
    have hlt : i < (rd_L1 l (p.length : Int)).length := by omega
    rw [loopB_at _ _ hlt, plcFrom_step l m p hlt]
    unfold plcAt
    by_cases c1 : rd (rd_L1 l (p.length : Int)) (i : Int) > 0
    · by_cases c2 : (i : Int) ∈ p
      · simp only [if_pos c1, if_pos c2, if_true, List.nil_append]
        exact ih (i + 1) o (by omega)
      · simp only [if_pos c1, if_neg c2]
        rw [dfs_first l m o (p ++ [(i : Int)])]
        cases plc l m (p ++ [(i : Int)]) with
        | nil => exact ih (i + 1) o (by omega)
        | cons q t => rfl
    · simp only [if_neg c1, if_true, List.nil_append]
      exact ih (i + 1) o (by omega)
  have := key (rd_L1 l (p.length : Int)).length 0 o (by omega)
  rw [List.drop_zero, plcFrom_zero] at this
  exact this
theorem firstP_eq (l : List (List Int)) : firstP l = (plc l l.length []).head? := by
 unfold firstP
 rw [dfs_first]
 cases plc l l.length [] <;> rfl
end Go.Proofs.YtgcgecbdmomceaaDoor.A

namespace Go.Proofs.YtgcgecbdmomceaaDoor.A
open Go.RowKit Go.Proofs.YtgcgecbdmomceaaDoorW.PrintWords Go.Proofs.YtgcgecbdmomceaaDoorW.PrintLast Go.Proofs.YtgcgecbdmomceaaDoorW.PrintMore
set_option linter.unusedVariables false
set_option linter.unusedSimpArgs false
theorem sub_len : ∀ (a b : List Int), a.Nodup → (∀ x ∈ a, x ∈ b) → a.length ≤ b.length
 | [], b, _, _ => Nat.zero_le _
 | x :: a, b, hn, hs => by
  have hx : x ∈ b := hs x List.mem_cons_self
  have h1 := sub_len a (b.erase x) (List.nodup_cons.1 hn).2 (fun y hy => by
   have hne : y ≠ x := by
    rintro rfl
    exact (List.nodup_cons.1 hn).1 hy
   exact (List.mem_erase_of_ne hne).2 (hs y (List.mem_cons_of_mem _ hy)))
  have h2 := List.length_erase_of_mem hx
  have h3 : 0 < b.length := List.length_pos_of_mem hx
  rw [List.length_cons]
  omega
def idxs (n : Nat) : List Int := (List.range n).map fun (j : Nat) => (j : Int)
theorem idxs_nodup (n : Nat) : (idxs n).Nodup := by
 unfold idxs
 rw [List.nodup_iff_pairwise_ne, List.pairwise_map]
 exact (List.nodup_iff_pairwise_ne.1 List.nodup_range).imp (fun h e => h (by omega))
theorem idxs_mem (n : Nat) (x : Int) : x ∈ idxs n ↔ 0 ≤ x ∧ x < n := by
 unfold idxs
 simp only [List.mem_map, List.mem_range]
 constructor
 · rintro ⟨j, hj, rfl⟩
   omega
 · intro h
   exact ⟨x.toNat, by omega, by omega⟩
theorem idxs_length (n : Nat) : (idxs n).length = n := by simp [idxs]
/-- What holds each index once is what has no number twice and none but indices. -/
theorem placing_iff (xs : List Int) : (∀ i : Int, 0 ≤ i → i < xs.length → i ∈ xs) ↔ xs.Nodup ∧ ∀ x ∈ xs, 0 ≤ x ∧ x < xs.length := by
 constructor
 · intro h
   have hs : ∀ y, y ∈ idxs xs.length → y ∈ xs := fun y hy => by
    have := (idxs_mem _ _).1 hy
    exact h y this.1 this.2
   have hmem : ∀ x ∈ xs, 0 ≤ x ∧ x < xs.length := by
    intro x hx
    refine (idxs_mem _ _).1 (Classical.byContradiction fun hc => ?_)
    have h1 := sub_len (idxs xs.length) (xs.erase x) (idxs_nodup _) (fun y hy => (List.mem_erase_of_ne (by rintro rfl; exact hc hy)).2 (hs y hy))
    have h2 := List.length_erase_of_mem hx
    have h3 : 0 < xs.length := List.length_pos_of_mem hx
    rw [idxs_length] at h1
    omega
   refine ⟨?_, hmem⟩
   refine Classical.byContradiction fun hc => ?_
   obtain ⟨x, hx, hx2⟩ : ∃ x, x ∈ xs ∧ x ∈ xs.erase x := by
    refine Classical.byContradiction fun hno => hc ?_
    rw [List.nodup_iff_count]
    intro a
    by_cases ha : a ∈ xs
    · have hna : ¬ a ∈ xs.erase a := fun h' => hno ⟨a, ha, h'⟩
      have h4 := List.count_eq_zero_of_not_mem hna
      rw [List.count_erase_self] at h4
      omega
    · rw [List.count_eq_zero_of_not_mem ha]
      omega
   have h1 := sub_len (idxs xs.length) (xs.erase x) (idxs_nodup _) (fun y hy => by
    by_cases e : y = x
    · rw [e]
      exact hx2
    · exact (List.mem_erase_of_ne e).2 (hs y hy))
   have h2 := List.length_erase_of_mem hx
   have h3 : 0 < xs.length := List.length_pos_of_mem hx
   rw [idxs_length] at h1
   omega
 · rintro ⟨hn, hm⟩ i h0 h1
   refine Classical.byContradiction fun hc => ?_
   have h2 := sub_len xs ((idxs xs.length).erase i) hn (fun y hy => (List.mem_erase_of_ne (by rintro rfl; exact hc hy)).2 ((idxs_mem _ _).2 (hm y hy)))
   have hi : i ∈ idxs xs.length := (idxs_mem _ _).2 ⟨h0, h1⟩
   have h3 := List.length_erase_of_mem hi
   rw [idxs_length] at h3
   omega
def placeB (xs : List Int) : Bool := if (1 : Int) ≤ xs.length ∧ (xs.length : Int) ≤ 6 then (if xs.Nodup then inR 0 ((xs.length : Int) - 1) xs else false) else false
theorem doPlacing_l (xs : List Int) (hx : xs.length ≤ 6) : ∀ (n i : Nat), i + n = xs.length → (xs.take i).Nodup → Ev (fun k => spec_doPlacing.l0 k xs xs (xs.length : Int) (i : Int)) (if xs.Nodup then inR 0 ((xs.length : Int) - 1) xs else false)
 | 0, i, h, hn => by
  refine Ev.succ ?_
  rw [List.take_of_length_le (by omega)] at hn
  simp only [spec_doPlacing.l0, if_neg (show ¬ (i : Int) < (xs.length : Int) by omega), w64 (x := (xs.length : Int) - 1) (by omega) (by omega), if_pos hn]
  exact Ev.bind (l1All_ev xs _ _ (by omega)) (Ev.now _)
 | n + 1, i, h, hn => by
  have hi : i < xs.length := by omega
  refine Ev.succ ?_
  simp only [spec_doPlacing.l0, if_pos (show (i : Int) < (xs.length : Int) by omega), if_pos (show (0 : Int) ≤ (i : Int) by omega), if_pos (show (i : Int) ≤ (xs.length : Int) by omega), rdn hi, wsucc hi (by omega), Int.toNat_natCast]
  refine Ev.bind (l1Has_ev (xs.take i) xs[i] (by rw [List.length_take]; omega)) ?_
  by_cases c : xs[i] ∈ xs.take i
  · simp only [decide_eq_true c, if_true]
    have hnot : ¬ xs.Nodup := by
     intro hd
     have h1 := hd.sublist (List.take_sublist (i + 1) xs)
     rw [List.take_succ_eq_append_getElem hi, List.nodup_append] at h1
     exact h1.2.2 _ c _ List.mem_cons_self rfl
    rw [if_neg hnot]
    exact Ev.now _
  · simp only [decide_eq_false c, if_neg (show ¬ (false = true) by decide)]
    refine doPlacing_l xs hx n (i + 1) (by omega) ?_
    rw [List.take_succ_eq_append_getElem hi, List.nodup_append]
    refine ⟨hn, by simp, fun a ha b hb => ?_⟩
    rw [List.mem_singleton] at hb
    rw [hb]
    rintro rfl
    exact c ha
theorem doPlacing_ev (xs : List Int) : Ev (fun k => spec_doPlacing.f k xs) (placeB xs) := by
 unfold spec_doPlacing.f placeB
 simp only [l1In_eq, Option.bind_some, decide_eq_true_eq]
 exact Ev.ite (fun h => doPlacing_l xs (by omega) xs.length 0 (by omega) (by simp)) (fun _ => Ev.now _)
theorem implIsPlacing_l (xs : List Int) (hx : xs.length ≤ 9223372036854775807) : ∀ (n i : Nat), i + n = xs.length → (∀ j : Int, 0 ≤ j → j < i → j ∈ xs) → Ev (fun k => impl_IsPlacing.l0 k xs (xs.length : Int) (i : Int)) (placeB xs)
 | 0, i, h, hn => by
  refine Ev.succ ?_
  simp only [impl_IsPlacing.l0, if_neg (show ¬ (i : Int) < (xs.length : Int) by omega), within_eq, Option.bind_some]
  have h1 := (placing_iff xs).1 (fun j h0 h1 => hn j h0 (by omega))
  unfold placeB inR
  have h2 : (xs.all fun x => decide (0 ≤ x ∧ x ≤ (xs.length : Int) - 1)) = true := by
   simp only [List.all_eq_true, decide_eq_true_eq]
   intro x hx'
   have := h1.2 x hx'
   omega
  rw [if_pos h1.1, h2]
  by_cases c : (1 : Int) ≤ xs.length ∧ (xs.length : Int) ≤ 6
  · rw [if_pos c, decide_eq_true c]
    exact Ev.now _
  · rw [if_neg c, decide_eq_false c]
    exact Ev.now _
 | n + 1, i, h, hn => by
  have hi : i < xs.length := by omega
  refine Ev.succ ?_
  simp only [impl_IsPlacing.l0, if_pos (show (i : Int) < (xs.length : Int) by omega), wsucc hi hx]
  refine Ev.bind (slContains_ev xs (i : Int) hx) ?_
  by_cases c : (i : Int) ∈ xs
  · simp only [decide_eq_true c, if_true]
    refine implIsPlacing_l xs hx n (i + 1) (by omega) (fun j h0 h1 => ?_)
    by_cases e : j = i
    · rw [e]
      exact c
    · exact hn j h0 (by omega)
  · simp only [decide_eq_false c, if_neg (show ¬ (false = true) by decide)]
    have hf : placeB xs = false := by
     unfold placeB inR
     split
     · split
       · next h1 h2 =>
         refine Bool.eq_false_iff.2 (fun h3 => c ?_)
         simp only [List.all_eq_true, decide_eq_true_eq] at h3
         exact (placing_iff xs).2 ⟨h2, fun x hx' => by have := h3 x hx'; omega⟩ (i : Int) (by omega) (by omega)
       · rfl
     · rfl
    rw [hf]
    exact Ev.now _
theorem implIsPlacing_ev (xs : List Int) (hx : xs.length ≤ 9223372036854775807) : Ev (fun k => impl_IsPlacing.f k xs) (placeB xs) := by
 unfold impl_IsPlacing.f
 exact implIsPlacing_l xs hx xs.length 0 (by omega) (fun j h0 h1 => by omega)
end Go.Proofs.YtgcgecbdmomceaaDoor.A

namespace Go.Proofs.YtgcgecbdmomceaaDoor.A
open Go.RowKit Go.Proofs.YtgcgecbdmomceaaDoorW.PrintWords Go.Proofs.YtgcgecbdmomceaaDoorW.PrintLast Go.Proofs.YtgcgecbdmomceaaDoorW.PrintMore
set_option linter.unusedVariables false
set_option linter.unusedSimpArgs false
theorem fresh_le (p : List Int) (n : Nat) (hn : p.Nodup) (hp : ∀ x ∈ p, 0 ≤ x ∧ x < (n : Int)) : ((List.range n).filter fun j => decide (¬ ((j : Nat) : Int) ∈ p)).length + p.length ≤ n := by
 have h := sub_len (((List.range n).filter fun j => decide (¬ ((j : Nat) : Int) ∈ p)).map (fun (j : Nat) => (j : Int)) ++ p) (idxs n) (by
  rw [List.nodup_append]
  refine ⟨?_, hn, ?_⟩
  · rw [List.nodup_iff_pairwise_ne, List.pairwise_map]
    exact ((List.nodup_iff_pairwise_ne.1 List.nodup_range).filter _).imp (fun h e => h (by omega))
  · intro a ha b hb e
    rw [List.mem_map] at ha
    obtain ⟨j, hj, rfl⟩ := ha
    rw [List.mem_filter] at hj
    have := of_decide_eq_true hj.2
    rw [e] at this
    exact this hb) (by
  intro x hx
  rw [List.mem_append] at hx
  rcases hx with hx | hx
  · rw [List.mem_map] at hx
    obtain ⟨j, hj, rfl⟩ := hx
    rw [List.mem_filter, List.mem_range] at hj
    exact (idxs_mem _ _).2 (by omega)
  · exact (idxs_mem _ _).2 (hp x hx))
 rw [List.length_append, List.length_map, idxs_length] at h
 exact h
def facN : Nat → Nat
 | 0 => 1
 | m + 1 => (m + 1) * facN m
theorem flat_le {α : Type} (f : Nat → List α) (c : Nat → Bool) (b : Nat) (h0 : ∀ j, c j = false → f j = []) (h1 : ∀ j, (f j).length ≤ b) : ∀ (js : List Nat), (js.flatMap f).length ≤ (js.filter c).length * b
 | [] => by simp
 | j :: js => by
  have ih := flat_le f c b h0 h1 js
  rw [List.flatMap_cons, List.length_append]
  by_cases hc : c j = true
  · rw [List.filter_cons_of_pos hc, List.length_cons, Nat.succ_mul]
    have := h1 j
    omega
  · rw [List.filter_cons_of_neg hc, h0 j (by simpa using hc)]
    simpa using ih
theorem flat_congr {α : Type} (f g : Nat → List α) : ∀ (js : List Nat), (∀ j ∈ js, f j = g j) → js.flatMap f = js.flatMap g
 | [], _ => rfl
 | j :: js, h => by
  rw [List.flatMap_cons, List.flatMap_cons, h j List.mem_cons_self, flat_congr f g js (fun x hx => h x (List.mem_cons_of_mem _ hx))]
theorem plc_count (l : List (List Int)) (hr : ∀ i, i < l.length → (rd_L1 l (i : Int)).length = l.length) : ∀ (m : Nat) (p : List Int), p.length + m = l.length → p.Nodup → (∀ x ∈ p, 0 ≤ x ∧ x < (l.length : Int)) → (plc l m p).length ≤ facN m
 | 0, p, _, _, _ => by simp [plc, facN]
 | m + 1, p, hm, hn, hp => by
  have hrl := hr p.length (by omega)
  rw [plc_succ, hrl]
  have hb : ∀ j, j < l.length → ¬ (j : Int) ∈ p → (plc l m (p ++ [(j : Int)])).length ≤ facN m := fun j hj hjp => plc_count l hr m (p ++ [(j : Int)]) (by rw [List.length_append]; simp; omega) (by
   rw [List.nodup_append]
   refine ⟨hn, by simp, fun a ha b hb => ?_⟩
   rw [List.mem_singleton] at hb
   subst hb
   rintro rfl
   exact hjp ha) (by
   intro x hx
   rw [List.mem_append, List.mem_singleton] at hx
   rcases hx with hx | rfl
   · exact hp x hx
   · omega)
  have e : (List.range l.length).flatMap (plcAt l m p) = (List.range l.length).flatMap (fun j => if j < l.length then plcAt l m p j else []) := by
   refine flat_congr _ _ _ fun j hj => ?_
   rw [if_pos (List.mem_range.1 hj)]
  rw [e]
  have h2 := flat_le (fun j => if j < l.length then plcAt l m p j else []) (fun j => decide (¬ (j : Int) ∈ p)) (facN m) (fun j hc => by
   have hc' : (j : Int) ∈ p := by simpa using hc
   show (if j < l.length then plcAt l m p j else []) = []
   split
   · unfold plcAt
     rw [if_pos hc']
     split <;> rfl
   · rfl) (fun j => by
   show (if j < l.length then plcAt l m p j else []).length ≤ facN m
   split
   · next hj =>
     unfold plcAt
     split
     · split
       · simp
       · next hjp => exact hb j hj hjp
     · simp
   · simp) (List.range l.length)
  have h3 := fresh_le p l.length hn hp
  refine Nat.le_trans h2 ?_
  show _ ≤ (m + 1) * facN m
  exact Nat.mul_le_mul_right _ (by omega)
theorem facN_le (m : Nat) (h : m ≤ 6) : facN m ≤ 720 := by
 match m, h with
 | 0, _ => decide
 | 1, _ => decide
 | 2, _ => decide
 | 3, _ => decide
 | 4, _ => decide
 | 5, _ => decide
 | 6, _ => decide
end Go.Proofs.YtgcgecbdmomceaaDoor.A

namespace Go.Proofs.YtgcgecbdmomceaaDoor.A
open Go.RowKit Go.Proofs.YtgcgecbdmomceaaDoorW.PrintWords Go.Proofs.YtgcgecbdmomceaaDoorW.PrintLast Go.Proofs.YtgcgecbdmomceaaDoorW.PrintMore
set_option linter.unusedVariables false
set_option linter.unusedSimpArgs false
/-! CountPlacings -/
theorem dfs_count (l : List (List Int)) (hr : ∀ i, i < l.length → (rd_L1 l (i : Int)).length = l.length) : ∀ (m : Nat) (n : Int) (p : List Int), 0 ≤ n → n + ((plc l m p).length : Int) ≤ 1000000000 → p.length + m = l.length → dfs l countStep m n p = (n + ((plc l m p).length : Int), true)
 | 0, n, p, h0, hb, _ => by
  unfold plc at hb ⊢
  unfold dfs countStep
  simp only [List.length_cons, List.length_nil] at hb ⊢
  rw [w64 (by omega) (by omega)]
  rfl
 | m + 1, n, p, h0, hb, hm => by
  have key : ∀ (c i : Nat) (n : Int), i + c = (rd_L1 l (p.length : Int)).length → 0 ≤ n → n + ((plcFrom l m p i).length : Int) ≤ 1000000000 → loopB (fun s j => if rd (rd_L1 l (p.length : Int)) (j : Int) > 0 then (if (j : Int) ∈ p then (s, true) else dfs l countStep m s (p ++ [(j : Int)])) else (s, true)) ((List.range (rd_L1 l (p.length : Int)).length).drop i) n = (n + ((plcFrom l m p i).length : Int), true) := by
   intro c
   induction c with
   | zero =>
    intro i n hi _ _
    have ei : i = (rd_L1 l (p.length : Int)).length := by omega
    rw [ei, loopB_end, plcFrom_end]
    simp
   | succ c ih =>
    intro i n hi h0 hb
    have hlt : i < (rd_L1 l (p.length : Int)).length := by omega
    rw [plcFrom_step l m p hlt, List.length_append] at hb
    rw [loopB_at _ _ hlt, plcFrom_step l m p hlt, List.length_append]
    unfold plcAt at hb ⊢
    by_cases c1 : rd (rd_L1 l (p.length : Int)) (i : Int) > 0
    · by_cases c2 : (i : Int) ∈ p
      · simp only [if_pos c1, if_pos c2, if_true, List.length_nil, Nat.zero_add] at hb ⊢
        exact ih (i + 1) n (by omega) h0 hb
      · simp only [if_pos c1, if_neg c2] at hb ⊢
        rw [dfs_count l hr m n (p ++ [(i : Int)]) h0 (by omega) (by rw [List.length_append]; simp; omega)]
        simp only [if_true]
        rw [ih (i + 1) _ (by omega) (by omega) (by omega)]
        congr 1
        omega
    · simp only [if_neg c1, if_true, List.length_nil, Nat.zero_add] at hb ⊢
      exact ih (i + 1) n (by omega) h0 hb
  have := key (rd_L1 l (p.length : Int)).length 0 n (by omega) h0 (by rw [plcFrom_zero]; exact hb)
  rw [List.drop_zero, plcFrom_zero] at this
  exact this
def cpR (l : List (List Int)) : Int × Bool := if squareB l = true then (((plc l l.length []).length : Int), true) else (0, false)
theorem tab_rl {l : List (List Int)} (h : Tab l) : ∀ i, i < l.length → (rd_L1 l (i : Int)).length = l.length := fun i hi => tab_rowlen h hi
theorem plc_bd {l : List (List Int)} (h : Tab l) : (plc l l.length []).length ≤ 720 := Nat.le_trans (plc_count l (tab_rl h) l.length [] (by simp) List.nodup_nil (by simp)) (facN_le _ h.len)
theorem specCountPlacings_ev (l0 : List (List Int)) (u0 : l0.length ≤ 1048576) (v0 : totSS l0 ≤ 1048576) : Ev (fun k => spec_CountPlacings.f k l0) (cpR l0) := by
 unfold spec_CountPlacings.f cpR
 refine Ev.bind (doGood_ev l0 u0 v0) (Ev.ite (fun h => ?_) (fun _ => Ev.now _))
 obtain ⟨hT, h1⟩ := square_tab h
 have hb := plc_bd hT
 refine Ev.bind (doPlc_ev l0 hT.len (fun i hi => by rw [tab_rl hT i hi]; have := hT.len; omega) l0.length [] 1000 (by simp) (by omega) (by omega)) ?_
 rw [List.take_of_length_le (by omega)]
 exact Ev.now _
theorem implCountPlacings_eq (l0 : List (List Int)) (u0 : l0.length ≤ 1048576) (v0 : totSS l0 ≤ 1048576) : impl_CountPlacings.f l0 = some (cpR l0) := by
 unfold impl_CountPlacings.f cpR
 rw [implIsSquare_eq l0 u0 v0, Option.bind_some]
 by_cases h : squareB l0 = true
 · obtain ⟨hT, h1⟩ := square_tab h
   have hb := plc_bd hT
   have hl := hT.len
   have hs : smallT l0 = true := by
    unfold smallT
    simp only [Bool.and_eq_true, decide_eq_true_eq, List.all_eq_true]
    exact ⟨by omega, fun x hx => by have := (hT.row x hx).1; omega⟩
   rw [if_pos h, if_pos h, if_pos hs, dfs_count l0 (tab_rl hT) l0.length 0 [] (by omega) (by omega) (by simp)]
   simp
 · rw [if_neg h, if_neg h]
end Go.Proofs.YtgcgecbdmomceaaDoor.A

namespace Go.Proofs.YtgcgecbdmomceaaDoor.A
open Go.RowKit Go.Proofs.YtgcgecbdmomceaaDoorW.PrintWords Go.Proofs.YtgcgecbdmomceaaDoorW.PrintLast Go.Proofs.YtgcgecbdmomceaaDoorW.PrintMore
set_option linter.unusedVariables false
set_option linter.unusedSimpArgs false
end Go.Proofs.YtgcgecbdmomceaaDoor.A

namespace Go.Proofs.YtgcgecbdmomceaaDoor.A
open Go.RowKit Go.Proofs.YtgcgecbdmomceaaDoorW.PrintWords Go.Proofs.YtgcgecbdmomceaaDoorW.PrintLast Go.Proofs.YtgcgecbdmomceaaDoorW.PrintMore
set_option linter.unusedVariables false
set_option linter.unusedSimpArgs false
theorem rd_mem {l : List Int} {i : Int} (h0 : 0 ≤ i) (h1 : i < l.length) : rd l i ∈ l := by
 have hi : i.toNat < l.length := by omega
 have e : rd l i = l[i.toNat] := rdi h0 h1
 rw [e]
 exact List.getElem_mem hi
end Go.Proofs.YtgcgecbdmomceaaDoor.A

namespace Go.Proofs.YtgcgecbdmomceaaDoor.A
open Go.RowKit Go.Proofs.YtgcgecbdmomceaaDoorW.PrintWords Go.Proofs.YtgcgecbdmomceaaDoorW.PrintLast Go.Proofs.YtgcgecbdmomceaaDoorW.PrintMore
set_option linter.unusedVariables false
set_option linter.unusedSimpArgs false
/-! what the draws give: small numbers and short lists -/
theorem tmod_bd (x n : Int) (h0 : 0 ≤ x) (hn : 0 < n) : 0 ≤ Int.tmod x n ∧ Int.tmod x n < n := by
 rw [Int.tmod_eq_emod_of_nonneg h0]
 exact ⟨Int.emod_nonneg _ (by omega), Int.emod_lt_of_pos _ hn⟩
theorem and255 (z : Int) : 0 ≤ Go.bits .and .u64 (IntKind.u64.wrap z / 1099511627776) 255 ∧ Go.bits .and .u64 (IntKind.u64.wrap z / 1099511627776) 255 ≤ 255 := by
 have e := IntKind.wrap_u64 z
 have h := bits_mask .u64 64 (by decide) wraps_u64 8 (by decide) (IntKind.u64.wrap z / 1099511627776) (by omega) (by omega)
 have h' : Go.bits .and .u64 (IntKind.u64.wrap z / 1099511627776) 255 = IntKind.u64.wrap z / 1099511627776 % 256 := by simpa using h
 rw [h']
 omega
def Bytes (l : List Int) : Prop := l.length ≤ 1048576 ∧ ∀ x ∈ l, 0 ≤ x ∧ x ≤ 255
theorem next_ev (l : List Int) (hl : Bytes l) (a s : Int) (h0 : 0 ≤ a) (h1 : a ≤ 1000000000) : ∃ x s', spec_l1Cur_next.f l a s = some (x, a + 1, s') ∧ 0 ≤ x ∧ x ≤ 255 := by
 have hb := hl.1
 unfold spec_l1Cur_next.f
 rw [w64 (x := a + 1) (by omega) (by omega)]
 by_cases c : a < (l.length : Int)
 · simp only [if_pos c, if_pos h0]
   have hx := hl.2 _ (rd_mem h0 c)
   by_cases c2 : a + 1 ≤ (l.length : Int)
   · simp only [if_pos c2]
     refine ⟨_, _, rfl, ?_⟩
     rw [w64 (by omega) (by omega)]
     exact hx
   · omega
 · simp only [if_neg c]
   by_cases c2 : a + 1 ≤ (l.length : Int)
   · omega
   · simp only [if_neg c2]
     refine ⟨_, _, rfl, ?_⟩
     have := and255 (IntKind.u64.wrap (IntKind.u64.wrap (s * 6364136223846793005) + 0) + 1442695040888963407)
     rw [w64 (by omega) (by omega)]
     exact this
theorem pick_ev (l : List Int) (hl : Bytes l) (a s n : Int) (h0 : 0 ≤ a) (h1 : a ≤ 900000000) : ∃ x a' s', spec_l1Cur_pick.f l a s n = some (x, a', s') ∧ 0 ≤ x ∧ (x = 0 ∨ x < n) ∧ a ≤ a' ∧ a' ≤ a + 2 := by
 unfold spec_l1Cur_pick.f
 by_cases c : n ≤ 1
 · simp only [if_pos c]
   exact ⟨_, _, _, rfl, by omega, by omega, by omega, by omega⟩
 · simp only [if_neg c]
   obtain ⟨x, s1, e1, b1, b2⟩ := next_ev l hl a s h0 (by omega)
   simp only [e1, Option.bind_some]
   by_cases c2 : n > 200
   · simp only [if_pos c2]
     obtain ⟨y, s2, e2, b3, b4⟩ := next_ev l hl (a + 1) s1 (by omega) (by omega)
     simp only [e2, Option.bind_some, if_neg (show ¬ n = 0 by omega)]
     have t := tmod_bd (x * 256 + y) n (by omega) (by omega)
     refine ⟨_, _, _, rfl, ?_⟩
     rw [w64 (x := x * 256) (by omega) (by omega), w64 (x := x * 256 + y) (by omega) (by omega)]
     omega
   · simp only [if_neg c2, if_neg (show ¬ n = 0 by omega)]
     have t := tmod_bd x n (by omega) (by omega)
     exact ⟨_, _, _, rfl, by omega, by omega, by omega, by omega⟩
theorem one_ev (l : List Int) (hl : Bytes l) (a s n : Int) (h0 : 0 ≤ a) (h1 : a ≤ 900000000) : ∃ x a' s', spec_l1Cur_one.f l a s n = some (x, a', s') ∧ a ≤ a' ∧ a' ≤ a + 2 := by
 unfold spec_l1Cur_one.f
 obtain ⟨x, a', s', e, _, _, b1, b2⟩ := pick_ev l hl a s n h0 h1
 simp only [e, Option.bind_some]
 exact ⟨_, _, _, rfl, b1, b2⟩
theorem among_ev (l : List Int) (hl : Bytes l) (a s : Int) (L : List Int) (hL : 0 < L.length) (h0 : 0 ≤ a) (h1 : a ≤ 900000000) : ∃ x a' s', spec_l1Cur_among.f l a s L = some (x, a', s') ∧ x ∈ L ∧ a ≤ a' ∧ a' ≤ a + 2 := by
 unfold spec_l1Cur_among.f
 obtain ⟨x, a', s', e, b0, b, b1, b2⟩ := pick_ev l hl a s (L.length : Int) h0 h1
 simp only [e, Option.bind_some, if_pos b0, if_pos (show x < (L.length : Int) by omega)]
 exact ⟨_, _, _, rfl, rd_mem b0 (by omega), b1, b2⟩
/-- Short lists of small numbers. -/
structure Bd (n m : Int) (l : List Int) : Prop where
 len : (l.length : Int) ≤ n
 low : ∀ x ∈ l, -1 ≤ x
 high : ∀ x ∈ l, x ≤ m
theorem Bd.nil (n m : Int) (h : 0 ≤ n) : Bd n m [] := ⟨by simpa using h, fun x hx => by simp at hx, fun x hx => by simp at hx⟩
end Go.Proofs.YtgcgecbdmomceaaDoor.A

namespace Go.Proofs.YtgcgecbdmomceaaDoor.A
open Go.RowKit Go.Proofs.YtgcgecbdmomceaaDoorW.PrintWords Go.Proofs.YtgcgecbdmomceaaDoorW.PrintLast Go.Proofs.YtgcgecbdmomceaaDoorW.PrintMore
set_option linter.unusedVariables false
set_option linter.unusedSimpArgs false
/-! FirstPlacing -/
def fpR (l : List (List Int)) : List Int × Bool := if squareB l = true then (match plc l l.length [] with | [] => ([], false) | q :: _ => (q, true)) else ([], false)
theorem plc_len (l : List (List Int)) : ∀ (m : Nat) (p q : List Int), q ∈ plc l m p → q.length = p.length + m
 | 0, p, q, h => by
  unfold plc at h
  rw [List.mem_singleton] at h
  rw [h]
  rfl
 | m + 1, p, q, h => by
  rw [plc_succ, List.mem_flatMap] at h
  obtain ⟨j, _, hj⟩ := h
  unfold plcAt at hj
  split at hj
  · split at hj
    · simp at hj
    · have := plc_len l m _ q hj
      rw [List.length_append] at this
      simp at this
      omega
  · simp at hj
theorem fpR_bd (l : List (List Int)) : (fpR l).1.length ≤ 1000 := by
 unfold fpR
 split
 · next h =>
   obtain ⟨hT, _⟩ := square_tab h
   have hl := hT.len
   cases hp : plc l l.length [] with
   | nil => simp
   | cons q t =>
    have := plc_len l l.length [] q (by rw [hp]; exact List.mem_cons_self)
    simp at this
    show q.length ≤ 1000
    omega
 · simp
theorem specFirstPlacing_ev (l0 : List (List Int)) (u0 : l0.length ≤ 1048576) (v0 : totSS l0 ≤ 1048576) : Ev (fun k => spec_FirstPlacing.f k l0) (fpR l0) := by
 unfold spec_FirstPlacing.f fpR
 refine Ev.bind (doGood_ev l0 u0 v0) (Ev.ite (fun h => ?_) (fun _ => Ev.now _))
 obtain ⟨hT, h1⟩ := square_tab h
 refine Ev.bind (doPlc_ev l0 hT.len (fun i hi => by rw [tab_rowlen hT hi]; have := hT.len; omega) l0.length [] 1 (by simp) (by omega) (by omega)) ?_
 cases plc l0 l0.length [] with
 | nil => exact Ev.now _
 | cons q t =>
  simp only [List.take_succ_cons, List.take_zero, List.length_cons, List.length_nil]
  exact Ev.now _
theorem implFirstPlacing_eq (l0 : List (List Int)) (u0 : l0.length ≤ 1048576) (v0 : totSS l0 ≤ 1048576) : impl_FirstPlacing.f l0 = some (fpR l0) := by
 unfold impl_FirstPlacing.f fpR
 rw [implIsSquare_eq l0 u0 v0, Option.bind_some, firstP_eq]
 by_cases h : squareB l0 = true
 · obtain ⟨hT, h1⟩ := square_tab h
   have hl := hT.len
   have hs : smallR l0 = true := by
    unfold smallR
    simp only [Bool.and_eq_true, decide_eq_true_eq, List.all_eq_true]
    exact ⟨by omega, fun x hx => by have := (hT.row x hx).1; omega⟩
   rw [if_pos h, if_pos h, if_pos ⟨hs, h1⟩]
   cases hp : plc l0 l0.length [] with
   | nil => rfl
   | cons q t =>
    have := plc_len l0 l0.length [] q (by rw [hp]; exact List.mem_cons_self)
    simp at this
    show (if 1 ≤ q.length then some (q, true) else none) = _
    rw [if_pos (by omega)]
 · rw [if_neg h, if_neg h]
end Go.Proofs.YtgcgecbdmomceaaDoor.A

namespace Go.Proofs.YtgcgecbdmomceaaDoor.A
open Go.RowKit Go.Proofs.YtgcgecbdmomceaaDoorW.PrintWords Go.Proofs.YtgcgecbdmomceaaDoorW.PrintLast Go.Proofs.YtgcgecbdmomceaaDoorW.PrintMore
set_option linter.unusedVariables false
set_option linter.unusedSimpArgs false
/-! the words that the laws share -/
theorem Ev.ite' {α : Type} {c : Prop} [Decidable c] {g f : Nat → Option α} {r : α} (h : c → Ev g r) (h' : ¬ c → Ev f r) : Ev (fun k => if c then g k else f k) r := by
 by_cases hc : c
 · simp only [hc, if_true]
   exact h hc
 · simp only [hc, if_false]
   exact h' hc
theorem big_eq (a b : List Int) (ha : a.length ≤ 140737488355328) : laws_big.f a b = some (decide ((a.length : Int) > 1048576 ∨ (b.length : Int) > 1048576 - (a.length : Int))) := by
 unfold laws_big.f
 rw [w64 (x := 1048576 - (a.length : Int)) (by omega) (by omega)]
 by_cases h : (a.length : Int) > 1048576
 · simp [h]
 · simp only [if_neg h]
   congr 1
   by_cases h2 : (b.length : Int) > 1048576 - (a.length : Int)
   · rw [decide_eq_true h2, decide_eq_true (.inr h2)]
   · rw [decide_eq_false h2, decide_eq_false (by omega)]
theorem bytes_of {l : List Int} (h : l.length ≤ 1048576) (hx : ∀ x ∈ l, (Lit.int .u8 x).wf = true) : Bytes l := by
 refine ⟨h, fun x hm => ?_⟩
 have := hx x hm
 simp only [Lit.wf, Bool.and_eq_true, decide_eq_true_eq] at this
 exact ⟨this.1, this.2⟩
theorem big_cut (l0 l1 : List Int) (g0 : l0.length * 1 ≤ 140737488351232) (x0 : ∀ x ∈ l0, (Lit.int .u8 x).wf = true) (x1 : ∀ x ∈ l1, (Lit.int .u8 x).wf = true) : laws_big.f l0 l1 = some true ∨ laws_big.f l0 l1 = some false ∧ Bytes l0 ∧ Bytes l1 := by
 rw [big_eq l0 l1 (by omega)]
 by_cases hb : (l0.length : Int) > 1048576 ∨ (l1.length : Int) > 1048576 - (l0.length : Int)
 · rw [decide_eq_true hb]
   exact .inl rfl
 · rw [decide_eq_false hb]
   exact .inr ⟨rfl, bytes_of (by omega) x0, bytes_of (by omega) x1⟩
end Go.Proofs.YtgcgecbdmomceaaDoor.A
