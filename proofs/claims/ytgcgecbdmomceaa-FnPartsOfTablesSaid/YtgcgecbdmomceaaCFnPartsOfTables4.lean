/- What the law FnPartsOfTables reaches, part 4: Lean functions with the same answers as the Go functions, the proofs that the Go code comes to these answers, and lemmas about them; no condition beyond those that each theorem names. -/
import Derived.Test.YtgcgecbdmomceaaCFnPartsOfTablesw1
import Derived.Lib.VarintBits
import Derived.Lib.Zigzag
import Derived.Test.YtgcgecbdmomceaaCFnPartsOfTables1
import Derived.Test.YtgcgecbdmomceaaCFnPartsOfTables2
import Derived.Test.YtgcgecbdmomceaaCFnPartsOfTables3
-- made by a program of this repo (wip/pp.py) through the kit's printer
namespace Go.Proofs.Ytgcgecbdmomceaa.A
open Go.RowKit Go.Proofs.YtgcgecbdmomceaaW.PrintWords Go.Proofs.YtgcgecbdmomceaaW.PrintLast Go.Proofs.YtgcgecbdmomceaaW.PrintMore
attribute [local go_sem] max2_int min2_int max_two min_two max_three min_three max_four min_four
set_option linter.unusedVariables false
set_option linter.unusedSimpArgs false

/-! ### laws_FnPartsOfTables: function 3 -/
mutual
def laws_FnPartsOfTables.j0 : Nat → List Int → List (List Int) → List (List Int) → List Int → Bool → Int → Bool → Option (Bool)
 | 0, _, _, _, _, _, _, _ => none
 | k + 1, x1, x5, x6, x7, x8, x12, x89 => if x89 = true then (some false) else (if x8 = true then (laws_FnPartsOfTables.l0 k x1 x5 x6 x7 x12 (x5.length : Int) 0 x7 (x7.length : Int) 0) else (laws_FnPartsOfTables.j3 k x1))
def laws_FnPartsOfTables.j3 : Nat → List Int → Option (Bool)
 | 0, _ => none
 | k + 1, x1 => (spec_DrawFromParts.f k x1).bind fun bt353 => ((impl_FromParts.f k bt353.1 bt353.2).bind fun bt359 => ((spec_FromParts.f k bt353.1 bt353.2).bind fun bt363 => (if (bt359.2 != bt363.2) = true then (laws_FnPartsOfTables.j4 k bt353.2 bt359.1 bt359.2 true) else ((laws_yRows.f k bt359.1 bt363.1).bind fun t367 => (laws_FnPartsOfTables.j4 k bt353.2 bt359.1 bt359.2 (!t367))))))
def laws_FnPartsOfTables.j4 : Nat → List Int → List (List Int) → Bool → Bool → Option (Bool)
 | 0, _, _, _, _ => none
 | k + 1, x23, x24, x25, x160 => if x160 = true then (some false) else (if x25 = true then (laws_FnPartsOfTables.l1 k x24 0 x23 (x23.length : Int) 0) else (some true))
def laws_FnPartsOfTables.l1 : Nat → List (List Int) → Int → List Int → Int → Int → Option (Bool)
 | 0, _, _, _, _, _ => none
 | k + 1, x24, x28, x162, x163, x164 => if x164 < x163 then (if 0 ≤ x164 then (if x164 < (x162.length : Int) then (laws_FnPartsOfTables.l1 k x24 (wrap64 (x28 + (rd x162 x164))) x162 x163 (wrap64 (x164 + 1))) else (none)) else (none)) else ((impl_EqualSum.f k x24).bind fun bt369 => (if bt369.2 = true then (some (bt369.1 == x28)) else (some false)))
def laws_FnPartsOfTables.l0 : Nat → List Int → List (List Int) → List (List Int) → List Int → Int → Int → Int → List Int → Int → Int → Option (Bool)
 | 0, _, _, _, _, _, _, _, _, _, _ => none
 | k + 1, x1, x5, x6, x7, x12, x16, x17, x93, x94, x95 => if x95 < x94 then (if 0 ≤ x95 then (if x95 < (x93.length : Int) then (if (rd x93 x95) < 1 then (some false) else (laws_FnPartsOfTables.l0 k x1 x5 x6 x7 x12 x16 (wrap64 (x17 + (rd x93 x95))) x93 x94 (wrap64 (x95 + 1)))) else (none)) else (none)) else (if x17 = x12 then (laws_FnPartsOfTables.j2 k x1 x5 x6 x7 x12 (decide ((x6.length : Int) > (wrap64 ((wrap64 ((wrap64 (x16 - 1)) * (wrap64 (x16 - 1)))) + 1))))) else (laws_FnPartsOfTables.j2 k x1 x5 x6 x7 x12 true))
def laws_FnPartsOfTables.j2 : Nat → List Int → List (List Int) → List (List Int) → List Int → Int → Bool → Option (Bool)
 | 0, _, _, _, _, _, _ => none
 | k + 1, x1, x5, x6, x7, x12, x118 => if x118 = true then (some false) else (if x12 > 0 then ((impl_FromParts.f k x6 x7).bind fun bt348 => (if bt348.2 = true then ((laws_yRows.f k bt348.1 x5).bind fun t352 => (if t352 = true then (laws_FnPartsOfTables.j3 k x1) else (some false))) else (some false))) else (laws_FnPartsOfTables.j3 k x1))
end
def laws_FnPartsOfTables.f (k : Nat) (l0 : List Int) (l1 : List Int) : Option (Bool) := (laws_big.f l0 l1).bind fun t323 => (if t323 = true then (some true) else ((spec_DrawPartsOf.f k l0).bind fun t324 => ((impl_PartsOf.f k t324).bind fun bt327 => ((spec_PartsOf.f k t324).bind fun bt334 => ((impl_EqualSum.f k t324).bind fun bt341 => ((spec_EqualSum.f k t324).bind fun bt343 => (if (bt327.2.2 != bt334.2.2) = true then (laws_FnPartsOfTables.j0 k l1 t324 bt327.1 bt327.2.1 bt327.2.2 bt341.1 true) else ((laws_yRows.f k bt327.1 bt334.1).bind fun t345 => (if t345 = true then ((laws_ySame.f k bt327.2.1 bt334.2.1).bind fun t346 => (if t346 = true then (if (bt341.2 != bt343.2) = true then (laws_FnPartsOfTables.j0 k l1 t324 bt327.1 bt327.2.1 bt327.2.2 bt341.1 true) else (if bt341.1 = bt343.1 then (laws_FnPartsOfTables.j0 k l1 t324 bt327.1 bt327.2.1 bt327.2.2 bt341.1 (bt341.2 != bt327.2.2)) else (laws_FnPartsOfTables.j0 k l1 t324 bt327.1 bt327.2.1 bt327.2.2 bt341.1 true))) else (laws_FnPartsOfTables.j0 k l1 t324 bt327.1 bt327.2.1 bt327.2.2 bt341.1 true))) else (laws_FnPartsOfTables.j0 k l1 t324 bt327.1 bt327.2.1 bt327.2.2 bt341.1 true))))))))))
set_option maxHeartbeats 8000000 in
set_option maxRecDepth 100000 in
theorem laws_FnPartsOfTables.calls (k : Nat) (A0 : Option Addr) (c0 : Nat) (l0 : List Int) (A1 : Option Addr) (c1 : Nat) (l1 : List Int) (r : Bool) (w : World) (hr0 : Kd.C (Kd.int .u8) w A0 l0.length l0) (hc0 : l0.length ≤ c0) (hr1 : Kd.C (Kd.int .u8) w A1 l1.length l1) (hc1 : l1.length ≤ c1) (h : laws_FnPartsOfTables.f k l0 l1 = some r) :
 Calls Try.prog 3 #[.slice A0 l0.length c0, .slice A1 l1.length c1] w fun e w' => e = .returned (.bool r) ∧ Below w.heap.size w w' := by
 have HR0 := Aside0.mk hr0
 have HC0 := Aside0.mk hc0
 clear hr0 hc0
 have HR1 := Aside0.mk hr1
 have HC1 := Aside0.mk hc1
 clear hr1 hc1
 have HB := Aside0.mk (Below.refl w.heap.size w)
 have H : ((laws_big.f l0 l1).bind fun t323 => (if t323 = true then (some true) else ((spec_DrawPartsOf.f k l0).bind fun t324 => ((impl_PartsOf.f k t324).bind fun bt327 => ((spec_PartsOf.f k t324).bind fun bt334 => ((impl_EqualSum.f k t324).bind fun bt341 => ((spec_EqualSum.f k t324).bind fun bt343 => (if (bt327.2.2 != bt334.2.2) = true then (laws_FnPartsOfTables.j0 k l1 t324 bt327.1 bt327.2.1 bt327.2.2 bt341.1 true) else ((laws_yRows.f k bt327.1 bt334.1).bind fun t345 => (if t345 = true then ((laws_ySame.f k bt327.2.1 bt334.2.1).bind fun t346 => (if t346 = true then (if (bt341.2 != bt343.2) = true then (laws_FnPartsOfTables.j0 k l1 t324 bt327.1 bt327.2.1 bt327.2.2 bt341.1 true) else (if bt341.1 = bt343.1 then (laws_FnPartsOfTables.j0 k l1 t324 bt327.1 bt327.2.1 bt327.2.2 bt341.1 (bt341.2 != bt327.2.2)) else (laws_FnPartsOfTables.j0 k l1 t324 bt327.1 bt327.2.1 bt327.2.2 bt341.1 true))) else (laws_FnPartsOfTables.j0 k l1 t324 bt327.1 bt327.2.1 bt327.2.2 bt341.1 true))) else (laws_FnPartsOfTables.j0 k l1 t324 bt327.1 bt327.2.1 bt327.2.2 bt341.1 true))))))))))) = some r := h
 clear h
 replace H := Option.bind_eq_some_iff.mp H
 obtain ⟨t323, A30, H⟩ := H
 replace H : (if t323 = true then (some true) else ((spec_DrawPartsOf.f k l0).bind fun t324 => ((impl_PartsOf.f k t324).bind fun bt327 => ((spec_PartsOf.f k t324).bind fun bt334 => ((impl_EqualSum.f k t324).bind fun bt341 => ((spec_EqualSum.f k t324).bind fun bt343 => (if (bt327.2.2 != bt334.2.2) = true then (laws_FnPartsOfTables.j0 k l1 t324 bt327.1 bt327.2.1 bt327.2.2 bt341.1 true) else ((laws_yRows.f k bt327.1 bt334.1).bind fun t345 => (if t345 = true then ((laws_ySame.f k bt327.2.1 bt334.2.1).bind fun t346 => (if t346 = true then (if (bt341.2 != bt343.2) = true then (laws_FnPartsOfTables.j0 k l1 t324 bt327.1 bt327.2.1 bt327.2.2 bt341.1 true) else (if bt341.1 = bt343.1 then (laws_FnPartsOfTables.j0 k l1 t324 bt327.1 bt327.2.1 bt327.2.2 bt341.1 (bt341.2 != bt327.2.2)) else (laws_FnPartsOfTables.j0 k l1 t324 bt327.1 bt327.2.1 bt327.2.2 bt341.1 true))) else (laws_FnPartsOfTables.j0 k l1 t324 bt327.1 bt327.2.1 bt327.2.2 bt341.1 true))) else (laws_FnPartsOfTables.j0 k l1 t324 bt327.1 bt327.2.1 bt327.2.2 bt341.1 true)))))))))) = some r := H
 have A3 := Aside0.mk A30
 clear A30
 by_cases c4 : t323 = true
 · subst c4
   have H1 : (some true) = some r := by rw [if_pos rfl] at H; exact H
   clear H
   have H := H1
   clear H1
   obtain rfl := Option.some.inj H
   go_enter Try.func3, Try.ntmps3
   go_wp2_with (first | ((with_reducible refine gate_callee (f := 4) rfl ?_); refine goesL_ (some 35) rfl rfl Try.func4 (by kernel_rfl) rfl #[.slice A0 l0.length c0, .slice A1 l1.length c1] rfl (by (try simp only [List.map_toArray, List.map_cons, List.map_nil]); first | done | rfl | (simp only [List.length_drop, List.length_take]; rfl)) ?_; (with_reducible refine (laws_big.calls _ _ l0 _ _ l1 true _ ?side1 ?side2 ?side3 ?side4 A3.out).mono ?_); (case side1 => repeat (first | exact HR0.out | (with_reducible refine Kd.C_alloc ?_ _) | (with_reducible refine Kd.C_drewN ?_ _) | (with_reducible refine Kd.C_drew ?_))); (case side2 => exact HC0.out); (case side3 => repeat (first | exact HR1.out | (with_reducible refine Kd.C_alloc ?_ _) | (with_reducible refine Kd.C_drewN ?_ _) | (with_reducible refine Kd.C_drew ?_))); (case side4 => exact HC1.out); rintro e w' ⟨rfl, ⟨nd, rfl⟩⟩; refine ⟨_, rfl, ?_⟩))
   go_ret
   exact ⟨by first | rfl | (simp [errW_none, errW_some] <;> rfl) | (simp [*, errW_none, errW_some] <;> rfl), by repeat (first | (with_reducible first | exact HB.out | apply below_alloc | apply pw_below_drewN | apply below_drew1) | exact HB.out)⟩
 · replace c4 := Bool.eq_false_iff.mpr c4
   subst c4
   have H1 : ((spec_DrawPartsOf.f k l0).bind fun t324 => ((impl_PartsOf.f k t324).bind fun bt327 => ((spec_PartsOf.f k t324).bind fun bt334 => ((impl_EqualSum.f k t324).bind fun bt341 => ((spec_EqualSum.f k t324).bind fun bt343 => (if (bt327.2.2 != bt334.2.2) = true then (laws_FnPartsOfTables.j0 k l1 t324 bt327.1 bt327.2.1 bt327.2.2 bt341.1 true) else ((laws_yRows.f k bt327.1 bt334.1).bind fun t345 => (if t345 = true then ((laws_ySame.f k bt327.2.1 bt334.2.1).bind fun t346 => (if t346 = true then (if (bt341.2 != bt343.2) = true then (laws_FnPartsOfTables.j0 k l1 t324 bt327.1 bt327.2.1 bt327.2.2 bt341.1 true) else (if bt341.1 = bt343.1 then (laws_FnPartsOfTables.j0 k l1 t324 bt327.1 bt327.2.1 bt327.2.2 bt341.1 (bt341.2 != bt327.2.2)) else (laws_FnPartsOfTables.j0 k l1 t324 bt327.1 bt327.2.1 bt327.2.2 bt341.1 true))) else (laws_FnPartsOfTables.j0 k l1 t324 bt327.1 bt327.2.1 bt327.2.2 bt341.1 true))) else (laws_FnPartsOfTables.j0 k l1 t324 bt327.1 bt327.2.1 bt327.2.2 bt341.1 true))))))))) = some r := by rw [if_neg (show ¬ (false = true) by decide)] at H; exact H
   clear H
   have H := H1
   clear H1
   replace H := Option.bind_eq_some_iff.mp H
   obtain ⟨t324, A50, H⟩ := H
   replace H : ((impl_PartsOf.f k t324).bind fun bt327 => ((spec_PartsOf.f k t324).bind fun bt334 => ((impl_EqualSum.f k t324).bind fun bt341 => ((spec_EqualSum.f k t324).bind fun bt343 => (if (bt327.2.2 != bt334.2.2) = true then (laws_FnPartsOfTables.j0 k l1 t324 bt327.1 bt327.2.1 bt327.2.2 bt341.1 true) else ((laws_yRows.f k bt327.1 bt334.1).bind fun t345 => (if t345 = true then ((laws_ySame.f k bt327.2.1 bt334.2.1).bind fun t346 => (if t346 = true then (if (bt341.2 != bt343.2) = true then (laws_FnPartsOfTables.j0 k l1 t324 bt327.1 bt327.2.1 bt327.2.2 bt341.1 true) else (if bt341.1 = bt343.1 then (laws_FnPartsOfTables.j0 k l1 t324 bt327.1 bt327.2.1 bt327.2.2 bt341.1 (bt341.2 != bt327.2.2)) else (laws_FnPartsOfTables.j0 k l1 t324 bt327.1 bt327.2.1 bt327.2.2 bt341.1 true))) else (laws_FnPartsOfTables.j0 k l1 t324 bt327.1 bt327.2.1 bt327.2.2 bt341.1 true))) else (laws_FnPartsOfTables.j0 k l1 t324 bt327.1 bt327.2.1 bt327.2.2 bt341.1 true)))))))) = some r := H
   have A5 := Aside0.mk A50
   clear A50
   replace H := Option.bind_eq_some_iff.mp H
   obtain ⟨⟨t327, t330, t333⟩, A60, H⟩ := H
   replace H : ((spec_PartsOf.f k t324).bind fun bt334 => ((impl_EqualSum.f k t324).bind fun bt341 => ((spec_EqualSum.f k t324).bind fun bt343 => (if (t333 != bt334.2.2) = true then (laws_FnPartsOfTables.j0 k l1 t324 t327 t330 t333 bt341.1 true) else ((laws_yRows.f k t327 bt334.1).bind fun t345 => (if t345 = true then ((laws_ySame.f k t330 bt334.2.1).bind fun t346 => (if t346 = true then (if (bt341.2 != bt343.2) = true then (laws_FnPartsOfTables.j0 k l1 t324 t327 t330 t333 bt341.1 true) else (if bt341.1 = bt343.1 then (laws_FnPartsOfTables.j0 k l1 t324 t327 t330 t333 bt341.1 (bt341.2 != t333)) else (laws_FnPartsOfTables.j0 k l1 t324 t327 t330 t333 bt341.1 true))) else (laws_FnPartsOfTables.j0 k l1 t324 t327 t330 t333 bt341.1 true))) else (laws_FnPartsOfTables.j0 k l1 t324 t327 t330 t333 bt341.1 true))))))) = some r := H
   have A6 := Aside0.mk A60
   clear A60
   replace H := Option.bind_eq_some_iff.mp H
   obtain ⟨⟨t334, t337, t340⟩, A70, H⟩ := H
   replace H : ((impl_EqualSum.f k t324).bind fun bt341 => ((spec_EqualSum.f k t324).bind fun bt343 => (if (t333 != t340) = true then (laws_FnPartsOfTables.j0 k l1 t324 t327 t330 t333 bt341.1 true) else ((laws_yRows.f k t327 t334).bind fun t345 => (if t345 = true then ((laws_ySame.f k t330 t337).bind fun t346 => (if t346 = true then (if (bt341.2 != bt343.2) = true then (laws_FnPartsOfTables.j0 k l1 t324 t327 t330 t333 bt341.1 true) else (if bt341.1 = bt343.1 then (laws_FnPartsOfTables.j0 k l1 t324 t327 t330 t333 bt341.1 (bt341.2 != t333)) else (laws_FnPartsOfTables.j0 k l1 t324 t327 t330 t333 bt341.1 true))) else (laws_FnPartsOfTables.j0 k l1 t324 t327 t330 t333 bt341.1 true))) else (laws_FnPartsOfTables.j0 k l1 t324 t327 t330 t333 bt341.1 true)))))) = some r := H
   have A7 := Aside0.mk A70
   clear A70
   replace H := Option.bind_eq_some_iff.mp H
   obtain ⟨⟨t341, t342⟩, A80, H⟩ := H
   replace H : ((spec_EqualSum.f k t324).bind fun bt343 => (if (t333 != t340) = true then (laws_FnPartsOfTables.j0 k l1 t324 t327 t330 t333 t341 true) else ((laws_yRows.f k t327 t334).bind fun t345 => (if t345 = true then ((laws_ySame.f k t330 t337).bind fun t346 => (if t346 = true then (if (t342 != bt343.2) = true then (laws_FnPartsOfTables.j0 k l1 t324 t327 t330 t333 t341 true) else (if t341 = bt343.1 then (laws_FnPartsOfTables.j0 k l1 t324 t327 t330 t333 t341 (t342 != t333)) else (laws_FnPartsOfTables.j0 k l1 t324 t327 t330 t333 t341 true))) else (laws_FnPartsOfTables.j0 k l1 t324 t327 t330 t333 t341 true))) else (laws_FnPartsOfTables.j0 k l1 t324 t327 t330 t333 t341 true))))) = some r := H
   have A8 := Aside0.mk A80
   clear A80
   replace H := Option.bind_eq_some_iff.mp H
   obtain ⟨⟨t343, t344⟩, A90, H⟩ := H
   replace H : (if (t333 != t340) = true then (laws_FnPartsOfTables.j0 k l1 t324 t327 t330 t333 t341 true) else ((laws_yRows.f k t327 t334).bind fun t345 => (if t345 = true then ((laws_ySame.f k t330 t337).bind fun t346 => (if t346 = true then (if (t342 != t344) = true then (laws_FnPartsOfTables.j0 k l1 t324 t327 t330 t333 t341 true) else (if t341 = t343 then (laws_FnPartsOfTables.j0 k l1 t324 t327 t330 t333 t341 (t342 != t333)) else (laws_FnPartsOfTables.j0 k l1 t324 t327 t330 t333 t341 true))) else (laws_FnPartsOfTables.j0 k l1 t324 t327 t330 t333 t341 true))) else (laws_FnPartsOfTables.j0 k l1 t324 t327 t330 t333 t341 true)))) = some r := H
   have A9 := Aside0.mk A90
   clear A90
   have HC10 := Aside0.mk H
   clear H
   go_enter Try.func3, Try.ntmps3
   go_upto_region 8 with (first | ((with_reducible refine gate_callee (f := 4) rfl ?_); refine goesL_ (some 35) rfl rfl Try.func4 (by kernel_rfl) rfl #[.slice A0 l0.length c0, .slice A1 l1.length c1] rfl (by (try simp only [List.map_toArray, List.map_cons, List.map_nil]); first | done | rfl | (simp only [List.length_drop, List.length_take]; rfl)) ?_; (with_reducible refine (laws_big.calls _ _ l0 _ _ l1 false _ ?side1 ?side2 ?side3 ?side4 A3.out).mono ?_); (case side1 => repeat (first | exact HR0.out | (with_reducible refine Kd.C_alloc ?_ _) | (with_reducible refine Kd.C_drewN ?_ _) | (with_reducible refine Kd.C_drew ?_))); (case side2 => exact HC0.out); (case side3 => repeat (first | exact HR1.out | (with_reducible refine Kd.C_alloc ?_ _) | (with_reducible refine Kd.C_drewN ?_ _) | (with_reducible refine Kd.C_drew ?_))); (case side4 => exact HC1.out); rintro e w' ⟨rfl, ⟨nd, rfl⟩⟩; refine ⟨_, rfl, ?_⟩) | ((with_reducible refine gate_callee (f := 5) rfl ?_); refine goesL_ (some 37) rfl rfl Try.func5 (by kernel_rfl) rfl #[.slice A0 l0.length c0] rfl (by (try simp only [List.map_toArray, List.map_cons, List.map_nil]); first | done | rfl | (simp only [List.length_drop, List.length_take]; rfl)) ?_; (with_reducible refine (spec_DrawPartsOf.calls k _ _ l0 t324 _ ?side1 ?side2 A5.out).mono ?_); (case side1 => repeat (first | exact HR0.out | (with_reducible refine Kd.C_alloc ?_ _) | (with_reducible refine Kd.C_drewN ?_ _) | (with_reducible refine Kd.C_drew ?_))); (case side2 => exact HC0.out); rintro e w11 ⟨v325, rfl, ho0, hb⟩; refine ⟨_, rfl, ?_⟩; have n0_ := Aside0.mk (Kd.V_lower (Kd.V_mono (ok' := fun k_ => True) ho0 (fun k_ hk_ => trivial)) (below_size (by repeat (first | (with_reducible first | exact HB.out | apply below_alloc | apply pw_below_drewN | apply below_drew1) | exact HB.out)))); have n1_ := Aside0.mk (below_step (by repeat (first | (with_reducible first | exact HB.out | apply below_alloc | apply pw_below_drewN | apply below_drew1) | exact HB.out)) hb); clear HB; have HO326 := n0_; have HB := n1_; clear n0_ n1_; (try clear hb); (try clear hb2); (try clear hk); (try clear hi); (try clear ho0); obtain ⟨Ao12, co12, eo12⟩ := Kd.V_slice HO326.out; subst eo12) | ((with_reducible refine gate_callee (f := 6) rfl ?_); refine goesL_ (some 40) rfl rfl Try.func6 (by kernel_rfl) rfl #[.slice Ao12 t324.length co12] rfl (by (try simp only [List.map_toArray, List.map_cons, List.map_nil]); first | done | rfl | (simp only [List.length_drop, List.length_take]; rfl)) ?_; (with_reducible refine (impl_PartsOf.calls k _ _ t324 t327 t330 t333 _ ?side1 ?side2 A6.out).mono ?_); (case side1 => repeat (first | exact (Kd.V_reads' HO326.out).2.2 | (with_reducible refine Kd.C_alloc ?_ _) | (with_reducible refine Kd.C_drewN ?_ _) | (with_reducible refine Kd.C_drew ?_))); (case side2 => exact (Kd.V_reads' HO326.out).2.1); rintro e w13 ⟨v328, v331, rfl, ho0, ho1, hb⟩; refine ⟨_, rfl, ?_⟩; have n0_ := Aside0.mk (Kd.V_mono (Kd.V_told (Kd.V_told (Kd.V_old (by (with_reducible repeat (first | apply Kd.V_alloc | apply Kd.V_drewN | apply Kd.V_drew)); exact HO326.out) hb) (Kd.N_base ho0)) (Kd.R_base ho1)) (fun _ h_ => h_.1)); have n1_ := Aside0.mk (Kd.N_lower (Kd.N_mono (ok' := fun k_ => some k_ ≠ (v331 : Value).ownBlock) ho0 (fun k_ hk_ => hk_.2)) (below_size (by repeat (first | (with_reducible first | exact HB.out | apply below_alloc | apply pw_below_drewN | apply below_drew1) | exact HB.out)))); have n2_ := Aside0.mk (Kd.R_lower (Kd.R_mono (ok' := fun k_ => True) ho1 (fun _ hk_ => trivial)) (below_size (by repeat (first | (with_reducible first | exact HB.out | apply below_alloc | apply pw_below_drewN | apply below_drew1) | exact HB.out)))); have n3_ := Aside0.mk (below_step (by repeat (first | (with_reducible first | exact HB.out | apply below_alloc | apply pw_below_drewN | apply below_drew1) | exact HB.out)) hb); clear HO326; clear HB; have HO326 := n0_; have HO329 := n1_; have HO332 := n2_; have HB := n3_; clear n0_ n1_ n2_ n3_; (try clear hb); (try clear hb2); (try clear hk); (try clear hi); (try clear ho0); (try clear ho1)) | ((with_reducible refine gate_callee (f := 7) rfl ?_); refine goesL_ (some 46) rfl rfl Try.func7 (by kernel_rfl) rfl #[.slice Ao12 t324.length co12] rfl (by (try simp only [List.map_toArray, List.map_cons, List.map_nil]); first | done | rfl | (simp only [List.length_drop, List.length_take]; rfl)) ?_; (with_reducible refine (spec_PartsOf.calls k _ _ t324 t334 t337 t340 _ ?side1 ?side2 A7.out).mono ?_); (case side1 => repeat (first | exact (Kd.V_reads' HO326.out).2.2 | (with_reducible refine Kd.C_alloc ?_ _) | (with_reducible refine Kd.C_drewN ?_ _) | (with_reducible refine Kd.C_drew ?_))); (case side2 => exact (Kd.V_reads' HO326.out).2.1); rintro e w14 ⟨v335, v338, rfl, ho0, ho1, hb⟩; refine ⟨_, rfl, ?_⟩; have n0_ := Aside0.mk (Kd.V_mono (Kd.V_told (Kd.V_told (Kd.V_old (by (with_reducible repeat (first | apply Kd.V_alloc | apply Kd.V_drewN | apply Kd.V_drew)); exact HO326.out) hb) (Kd.N_base ho0)) (Kd.R_base ho1)) (fun _ h_ => h_.1)); have n1_ := Aside0.mk (Kd.N_mono (Kd.N_told (Kd.N_told (Kd.N_old (by (with_reducible repeat (first | apply Kd.N_alloc | apply Kd.N_drewN | apply Kd.N_drew)); exact HO329.out) hb) (Kd.N_base ho0)) (Kd.R_base ho1)) (fun _ h_ => h_.1)); have n2_ := Aside0.mk (Kd.R_elder' (by (with_reducible repeat (first | apply Kd.R_alloc | apply Kd.R_drewN | apply Kd.R_drew)); exact HO332.out) (Kd.R_base ho1) hb); have n3_ := Aside0.mk (Kd.N_lower (Kd.N_mono (ok' := fun k_ => some k_ ≠ (v338 : Value).ownBlock ∧ some k_ ≠ (v328 : Value).ownBlock ∧ some k_ ≠ (v331 : Value).ownBlock) ho0 (fun k_ hk_ => ⟨hk_.2, (Kd.fresh' (Kd.N_lt (by (with_reducible repeat (first | apply Kd.N_alloc | apply Kd.N_drewN | apply Kd.N_drew)); exact HO329.out)) k_ hk_.1), (Kd.fresh' (Kd.R_lt (by (with_reducible repeat (first | apply Kd.R_alloc | apply Kd.R_drewN | apply Kd.R_drew)); exact HO332.out)) k_ hk_.1)⟩)) (below_size (by repeat (first | (with_reducible first | exact HB.out | apply below_alloc | apply pw_below_drewN | apply below_drew1) | exact HB.out)))); have n4_ := Aside0.mk (Kd.R_lower (Kd.R_new' (Kd.R_mono (ok' := fun k_ => True) ho1 (fun _ hk_ => trivial)) (Kd.R_lt (by (with_reducible repeat (first | apply Kd.R_alloc | apply Kd.R_drewN | apply Kd.R_drew)); exact HO332.out))) (below_size (by repeat (first | (with_reducible first | exact HB.out | apply below_alloc | apply pw_below_drewN | apply below_drew1) | exact HB.out)))); have n5_ := Aside0.mk (below_step (by repeat (first | (with_reducible first | exact HB.out | apply below_alloc | apply pw_below_drewN | apply below_drew1) | exact HB.out)) hb); clear HO326; clear HO329; clear HO332; clear HB; have HO326 := n0_; have HO329 := n1_; have HO332 := n2_; have HO336 := n3_; have HO339 := n4_; have HB := n5_; clear n0_ n1_ n2_ n3_ n4_ n5_; (try clear hb); (try clear hb2); (try clear hk); (try clear hi); (try clear ho0); (try clear ho1)) | ((with_reducible refine gate_callee (f := 8) rfl ?_); refine goesL_ (some 52) rfl rfl Try.func8 (by kernel_rfl) rfl #[.slice Ao12 t324.length co12] rfl (by (try simp only [List.map_toArray, List.map_cons, List.map_nil]); first | done | rfl | (simp only [List.length_drop, List.length_take]; rfl)) ?_; (with_reducible refine (impl_EqualSum.calls k _ _ t324 t341 t342 _ ?side1 ?side2 A8.out).mono ?_); (case side1 => repeat (first | exact (Kd.V_reads' HO326.out).2.2 | (with_reducible refine Kd.C_alloc ?_ _) | (with_reducible refine Kd.C_drewN ?_ _) | (with_reducible refine Kd.C_drew ?_))); (case side2 => exact (Kd.V_reads' HO326.out).2.1); rintro e w15 ⟨rfl, hb⟩; refine ⟨_, rfl, ?_⟩; have n0_ := Aside0.mk (Kd.V_below (by (with_reducible repeat (first | apply Kd.V_alloc | apply Kd.V_drewN | apply Kd.V_drew)); exact HO326.out) hb); have n1_ := Aside0.mk (Kd.N_below (by (with_reducible repeat (first | apply Kd.N_alloc | apply Kd.N_drewN | apply Kd.N_drew)); exact HO329.out) hb); have n2_ := Aside0.mk (Kd.R_below (by (with_reducible repeat (first | apply Kd.R_alloc | apply Kd.R_drewN | apply Kd.R_drew)); exact HO332.out) hb); have n3_ := Aside0.mk (Kd.N_below (by (with_reducible repeat (first | apply Kd.N_alloc | apply Kd.N_drewN | apply Kd.N_drew)); exact HO336.out) hb); have n4_ := Aside0.mk (Kd.R_below (by (with_reducible repeat (first | apply Kd.R_alloc | apply Kd.R_drewN | apply Kd.R_drew)); exact HO339.out) hb); have n5_ := Aside0.mk (below_step (by repeat (first | (with_reducible first | exact HB.out | apply below_alloc | apply pw_below_drewN | apply below_drew1) | exact HB.out)) hb); clear HO326; clear HO329; clear HO332; clear HO336; clear HO339; clear HB; have HO326 := n0_; have HO329 := n1_; have HO332 := n2_; have HO336 := n3_; have HO339 := n4_; have HB := n5_; clear n0_ n1_ n2_ n3_ n4_ n5_; (try clear hb); (try clear hb2); (try clear hk); (try clear hi)) | ((with_reducible refine gate_callee (f := 9) rfl ?_); refine goesL_ (some 57) rfl rfl Try.func9 (by kernel_rfl) rfl #[.slice Ao12 t324.length co12] rfl (by (try simp only [List.map_toArray, List.map_cons, List.map_nil]); first | done | rfl | (simp only [List.length_drop, List.length_take]; rfl)) ?_; (with_reducible refine (spec_EqualSum.calls k _ _ t324 t343 t344 _ ?side1 ?side2 A9.out).mono ?_); (case side1 => repeat (first | exact (Kd.V_reads' HO326.out).2.2 | (with_reducible refine Kd.C_alloc ?_ _) | (with_reducible refine Kd.C_drewN ?_ _) | (with_reducible refine Kd.C_drew ?_))); (case side2 => exact (Kd.V_reads' HO326.out).2.1); rintro e w' ⟨rfl, ⟨nd, rfl⟩⟩; refine ⟨_, rfl, ?_⟩))
   (try simp only [Act.put, List.setIfInBounds_toArray, List.set_cons_zero, List.set_cons_succ])
   go_cut [89] (fun v89 wc => ∃ (kq : Nat) (x89_9 : Bool), v89 = .bool x89_9 ∧ Aside0 (laws_FnPartsOfTables.j0 kq l1 t324 t327 t330 t333 t341 x89_9 = some r) ∧ Aside0 (kq ≤ k) ∧ Aside0 (Kd.V (Kd.slice 3 (Kd.int .i64)) 26 wc w.heap.size (fun k_ => some k_ ≠ (v328 : Value).ownBlock ∧ some k_ ≠ (v331 : Value).ownBlock) (.slice Ao12 t324.length co12) t324) ∧ Aside0 (Kd.N (Kd.slice 3 (Kd.int .i64)) 26 wc w.heap.size (fun k_ => some k_ ≠ (v331 : Value).ownBlock) v328 t327) ∧ Aside0 (Kd.R (Kd.int .i64) 3 wc w.heap.size (fun _ => True) v331 t330) ∧ Aside0 (Below w.heap.size w wc))
   case first => as_aux_lemma =>
    have H := HC10.out
    clear HC10
    by_cases c16 : (t333 != t340) = true
    · rw [if_pos c16] at H
      have c16b0 : (t333 != t340) = true := c16
      (try (have c16b1 : decide (t333 = t340) = false := by simpa using c16))
      (try (have c16b2 : (t333 == t340) = false := by simpa using c16))
      (try (have c16b3 : ¬ (t333 = t340) := by simpa using c16))
      clear c16
      (first | rw [c16b0] | (simp only [i64_w, i32_w]; rw [c16b0]) | skip)
      have H' := Aside0.mk H
      clear H
      go_wp2
      go_meet
      case rel => exact ⟨_, (true), (by first | rfl | (simp; done) | (simp [*]; done)), H', ⟨by first | omega | exact Nat.le_refl _⟩, ⟨by (with_reducible repeat (first | apply Kd.V_alloc | apply Kd.V_drewN | apply Kd.V_drew)); exact Kd.V_mono HO326.out (fun _ hk => ⟨hk.1.1.1.2, hk.1.1.2⟩)⟩, ⟨by (with_reducible repeat (first | apply Kd.N_alloc | apply Kd.N_drewN | apply Kd.N_drew)); exact Kd.N_mono HO329.out (fun _ hk => hk.1.1)⟩, ⟨by (with_reducible repeat (first | apply Kd.R_alloc | apply Kd.R_drewN | apply Kd.R_drew)); exact Kd.R_mono HO332.out (fun _ hk => trivial)⟩, ⟨by repeat (first | (with_reducible first | exact HB.out | apply below_alloc | apply pw_below_drewN | apply below_drew1) | exact HB.out)⟩⟩
    · rw [if_neg c16] at H
      have c16b0 : (t333 != t340) = false := by simpa using c16
      (try (have c16b1 : decide (t333 = t340) = true := by simpa using c16))
      (try (have c16b2 : (t333 == t340) = true := by simpa using c16))
      clear c16
      (first | rw [c16b0] | (simp only [i64_w, i32_w]; rw [c16b0]) | skip)
      replace H := Option.bind_eq_some_iff.mp H
      obtain ⟨t345, A170, H⟩ := H
      replace H : (if t345 = true then ((laws_ySame.f k t330 t337).bind fun t346 => (if t346 = true then (if (t342 != t344) = true then (laws_FnPartsOfTables.j0 k l1 t324 t327 t330 t333 t341 true) else (if t341 = t343 then (laws_FnPartsOfTables.j0 k l1 t324 t327 t330 t333 t341 (t342 != t333)) else (laws_FnPartsOfTables.j0 k l1 t324 t327 t330 t333 t341 true))) else (laws_FnPartsOfTables.j0 k l1 t324 t327 t330 t333 t341 true))) else (laws_FnPartsOfTables.j0 k l1 t324 t327 t330 t333 t341 true)) = some r := H
      have A17 := Aside0.mk A170
      clear A170
      by_cases c18 : t345 = true
      · subst c18
        have H1 : ((laws_ySame.f k t330 t337).bind fun t346 => (if t346 = true then (if (t342 != t344) = true then (laws_FnPartsOfTables.j0 k l1 t324 t327 t330 t333 t341 true) else (if t341 = t343 then (laws_FnPartsOfTables.j0 k l1 t324 t327 t330 t333 t341 (t342 != t333)) else (laws_FnPartsOfTables.j0 k l1 t324 t327 t330 t333 t341 true))) else (laws_FnPartsOfTables.j0 k l1 t324 t327 t330 t333 t341 true))) = some r := by rw [if_pos rfl] at H; exact H
        clear H
        have H := H1
        clear H1
        replace H := Option.bind_eq_some_iff.mp H
        obtain ⟨t346, A190, H⟩ := H
        replace H : (if t346 = true then (if (t342 != t344) = true then (laws_FnPartsOfTables.j0 k l1 t324 t327 t330 t333 t341 true) else (if t341 = t343 then (laws_FnPartsOfTables.j0 k l1 t324 t327 t330 t333 t341 (t342 != t333)) else (laws_FnPartsOfTables.j0 k l1 t324 t327 t330 t333 t341 true))) else (laws_FnPartsOfTables.j0 k l1 t324 t327 t330 t333 t341 true)) = some r := H
        have A19 := Aside0.mk A190
        clear A190
        by_cases c20 : t346 = true
        · subst c20
          have H1 : (if (t342 != t344) = true then (laws_FnPartsOfTables.j0 k l1 t324 t327 t330 t333 t341 true) else (if t341 = t343 then (laws_FnPartsOfTables.j0 k l1 t324 t327 t330 t333 t341 (t342 != t333)) else (laws_FnPartsOfTables.j0 k l1 t324 t327 t330 t333 t341 true))) = some r := by rw [if_pos rfl] at H; exact H
          clear H
          have H := H1
          clear H1
          by_cases c21 : (t342 != t344) = true
          · rw [if_pos c21] at H
            have c21b0 : (t342 != t344) = true := c21
            (try (have c21b1 : decide (t342 = t344) = false := by simpa using c21))
            (try (have c21b2 : (t342 == t344) = false := by simpa using c21))
            (try (have c21b3 : ¬ (t342 = t344) := by simpa using c21))
            clear c21
            have H' := Aside0.mk H
            clear H
            obtain ⟨Ao22, co22, eo22⟩ := Kd.N_slice HO329.out
            subst eo22
            obtain ⟨Ao23, co23, eo23⟩ := Kd.N_slice HO336.out
            subst eo23
            go_wp2_with (first | (go_at_call 10; (with_reducible refine (laws_yRows.calls k _ _ t327 _ _ t334 true _ ?side1 ?side2 ?side3 ?side4 A17.out).mono ?_); (case side1 => repeat (first | exact (Kd.N_reads' HO329.out).2.2 | (with_reducible refine Kd.C_alloc ?_ _) | (with_reducible refine Kd.C_drewN ?_ _) | (with_reducible refine Kd.C_drew ?_))); (case side2 => exact (Kd.N_reads' HO329.out).2.1); (case side3 => repeat (first | exact (Kd.N_reads' HO336.out).2.2 | (with_reducible refine Kd.C_alloc ?_ _) | (with_reducible refine Kd.C_drewN ?_ _) | (with_reducible refine Kd.C_drew ?_))); (case side4 => exact (Kd.N_reads' HO336.out).2.1); rintro e w' ⟨rfl, ⟨nd, rfl⟩⟩; obtain ⟨Ao24, co24, eo24⟩ := Kd.R_slice HO332.out; subst eo24; obtain ⟨Ao25, co25, eo25⟩ := Kd.R_slice HO339.out; subst eo25) | (go_at_call 11; (with_reducible refine (laws_ySame.calls k _ _ t330 _ _ t337 true _ ?side1 ?side2 ?side3 ?side4 A19.out).mono ?_); (case side1 => repeat (first | exact (Kd.R_reads' HO332.out).2.2 | (with_reducible refine Kd.C_alloc ?_ _) | (with_reducible refine Kd.C_drewN ?_ _) | (with_reducible refine Kd.C_drew ?_))); (case side2 => exact (Kd.R_reads' HO332.out).2.1); (case side3 => repeat (first | exact (Kd.R_reads' HO339.out).2.2 | (with_reducible refine Kd.C_alloc ?_ _) | (with_reducible refine Kd.C_drewN ?_ _) | (with_reducible refine Kd.C_drew ?_))); (case side4 => exact (Kd.R_reads' HO339.out).2.1); rintro e w' ⟨rfl, ⟨nd, rfl⟩⟩))
            go_meet
            case rel => exact ⟨_, (true), (by first | rfl | (simp; done) | (simp [*]; done)), H', ⟨by first | omega | exact Nat.le_refl _⟩, ⟨by (with_reducible repeat (first | apply Kd.V_alloc | apply Kd.V_drewN | apply Kd.V_drew)); exact Kd.V_mono HO326.out (fun _ hk => ⟨hk.1.1.1.2, hk.1.1.2⟩)⟩, ⟨by (with_reducible repeat (first | apply Kd.N_alloc | apply Kd.N_drewN | apply Kd.N_drew)); exact Kd.N_mono HO329.out (fun _ hk => hk.1.1)⟩, ⟨by (with_reducible repeat (first | apply Kd.R_alloc | apply Kd.R_drewN | apply Kd.R_drew)); exact Kd.R_mono HO332.out (fun _ hk => trivial)⟩, ⟨by repeat (first | (with_reducible first | exact HB.out | apply below_alloc | apply pw_below_drewN | apply below_drew1) | exact HB.out)⟩⟩
          · rw [if_neg c21] at H
            have c21b0 : (t342 != t344) = false := by simpa using c21
            (try (have c21b1 : decide (t342 = t344) = true := by simpa using c21))
            (try (have c21b2 : (t342 == t344) = true := by simpa using c21))
            clear c21
            by_cases c26 : t341 = t343
            · rw [if_pos c26] at H
              have c26b0 : (t341 == t343) = true := beq_iff_eq.mpr c26
              have c26b1 : (t341 != t343) = false := bne_eq_false_iff_eq.mpr c26
              clear c26
              have H' := Aside0.mk H
              clear H
              obtain ⟨Ao27, co27, eo27⟩ := Kd.N_slice HO329.out
              subst eo27
              obtain ⟨Ao28, co28, eo28⟩ := Kd.N_slice HO336.out
              subst eo28
              go_wp2_with (first | (go_at_call 10; (with_reducible refine (laws_yRows.calls k _ _ t327 _ _ t334 true _ ?side1 ?side2 ?side3 ?side4 A17.out).mono ?_); (case side1 => repeat (first | exact (Kd.N_reads' HO329.out).2.2 | (with_reducible refine Kd.C_alloc ?_ _) | (with_reducible refine Kd.C_drewN ?_ _) | (with_reducible refine Kd.C_drew ?_))); (case side2 => exact (Kd.N_reads' HO329.out).2.1); (case side3 => repeat (first | exact (Kd.N_reads' HO336.out).2.2 | (with_reducible refine Kd.C_alloc ?_ _) | (with_reducible refine Kd.C_drewN ?_ _) | (with_reducible refine Kd.C_drew ?_))); (case side4 => exact (Kd.N_reads' HO336.out).2.1); rintro e w' ⟨rfl, ⟨nd, rfl⟩⟩; obtain ⟨Ao29, co29, eo29⟩ := Kd.R_slice HO332.out; subst eo29; obtain ⟨Ao30, co30, eo30⟩ := Kd.R_slice HO339.out; subst eo30) | (go_at_call 11; (with_reducible refine (laws_ySame.calls k _ _ t330 _ _ t337 true _ ?side1 ?side2 ?side3 ?side4 A19.out).mono ?_); (case side1 => repeat (first | exact (Kd.R_reads' HO332.out).2.2 | (with_reducible refine Kd.C_alloc ?_ _) | (with_reducible refine Kd.C_drewN ?_ _) | (with_reducible refine Kd.C_drew ?_))); (case side2 => exact (Kd.R_reads' HO332.out).2.1); (case side3 => repeat (first | exact (Kd.R_reads' HO339.out).2.2 | (with_reducible refine Kd.C_alloc ?_ _) | (with_reducible refine Kd.C_drewN ?_ _) | (with_reducible refine Kd.C_drew ?_))); (case side4 => exact (Kd.R_reads' HO339.out).2.1); rintro e w' ⟨rfl, ⟨nd, rfl⟩⟩))
              go_meet
              case rel => exact ⟨_, ((t342 != t333)), (by first | rfl | (simp; done) | (simp [*]; done)), H', ⟨by first | omega | exact Nat.le_refl _⟩, ⟨by (with_reducible repeat (first | apply Kd.V_alloc | apply Kd.V_drewN | apply Kd.V_drew)); exact Kd.V_mono HO326.out (fun _ hk => ⟨hk.1.1.1.2, hk.1.1.2⟩)⟩, ⟨by (with_reducible repeat (first | apply Kd.N_alloc | apply Kd.N_drewN | apply Kd.N_drew)); exact Kd.N_mono HO329.out (fun _ hk => hk.1.1)⟩, ⟨by (with_reducible repeat (first | apply Kd.R_alloc | apply Kd.R_drewN | apply Kd.R_drew)); exact Kd.R_mono HO332.out (fun _ hk => trivial)⟩, ⟨by repeat (first | (with_reducible first | exact HB.out | apply below_alloc | apply pw_below_drewN | apply below_drew1) | exact HB.out)⟩⟩
            · rw [if_neg c26] at H
              have c26b0 : (t341 == t343) = false := beq_eq_false_iff_ne.mpr c26
              have c26b1 : (t341 != t343) = true := bne_iff_ne.mpr c26
              have H' := Aside0.mk H
              clear H
              obtain ⟨Ao31, co31, eo31⟩ := Kd.N_slice HO329.out
              subst eo31
              obtain ⟨Ao32, co32, eo32⟩ := Kd.N_slice HO336.out
              subst eo32
              go_wp2_with (first | (go_at_call 10; (with_reducible refine (laws_yRows.calls k _ _ t327 _ _ t334 true _ ?side1 ?side2 ?side3 ?side4 A17.out).mono ?_); (case side1 => repeat (first | exact (Kd.N_reads' HO329.out).2.2 | (with_reducible refine Kd.C_alloc ?_ _) | (with_reducible refine Kd.C_drewN ?_ _) | (with_reducible refine Kd.C_drew ?_))); (case side2 => exact (Kd.N_reads' HO329.out).2.1); (case side3 => repeat (first | exact (Kd.N_reads' HO336.out).2.2 | (with_reducible refine Kd.C_alloc ?_ _) | (with_reducible refine Kd.C_drewN ?_ _) | (with_reducible refine Kd.C_drew ?_))); (case side4 => exact (Kd.N_reads' HO336.out).2.1); rintro e w' ⟨rfl, ⟨nd, rfl⟩⟩; obtain ⟨Ao33, co33, eo33⟩ := Kd.R_slice HO332.out; subst eo33; obtain ⟨Ao34, co34, eo34⟩ := Kd.R_slice HO339.out; subst eo34) | (go_at_call 11; (with_reducible refine (laws_ySame.calls k _ _ t330 _ _ t337 true _ ?side1 ?side2 ?side3 ?side4 A19.out).mono ?_); (case side1 => repeat (first | exact (Kd.R_reads' HO332.out).2.2 | (with_reducible refine Kd.C_alloc ?_ _) | (with_reducible refine Kd.C_drewN ?_ _) | (with_reducible refine Kd.C_drew ?_))); (case side2 => exact (Kd.R_reads' HO332.out).2.1); (case side3 => repeat (first | exact (Kd.R_reads' HO339.out).2.2 | (with_reducible refine Kd.C_alloc ?_ _) | (with_reducible refine Kd.C_drewN ?_ _) | (with_reducible refine Kd.C_drew ?_))); (case side4 => exact (Kd.R_reads' HO339.out).2.1); rintro e w' ⟨rfl, ⟨nd, rfl⟩⟩))
              go_meet
              case rel => exact ⟨_, (true), (by first | rfl | (simp; done) | (simp [*]; done)), H', ⟨by first | omega | exact Nat.le_refl _⟩, ⟨by (with_reducible repeat (first | apply Kd.V_alloc | apply Kd.V_drewN | apply Kd.V_drew)); exact Kd.V_mono HO326.out (fun _ hk => ⟨hk.1.1.1.2, hk.1.1.2⟩)⟩, ⟨by (with_reducible repeat (first | apply Kd.N_alloc | apply Kd.N_drewN | apply Kd.N_drew)); exact Kd.N_mono HO329.out (fun _ hk => hk.1.1)⟩, ⟨by (with_reducible repeat (first | apply Kd.R_alloc | apply Kd.R_drewN | apply Kd.R_drew)); exact Kd.R_mono HO332.out (fun _ hk => trivial)⟩, ⟨by repeat (first | (with_reducible first | exact HB.out | apply below_alloc | apply pw_below_drewN | apply below_drew1) | exact HB.out)⟩⟩
        · replace c20 := Bool.eq_false_iff.mpr c20
          subst c20
          have H1 : (laws_FnPartsOfTables.j0 k l1 t324 t327 t330 t333 t341 true) = some r := by rw [if_neg (show ¬ (false = true) by decide)] at H; exact H
          clear H
          have H := H1
          clear H1
          have H' := Aside0.mk H
          clear H
          obtain ⟨Ao35, co35, eo35⟩ := Kd.N_slice HO329.out
          subst eo35
          obtain ⟨Ao36, co36, eo36⟩ := Kd.N_slice HO336.out
          subst eo36
          go_wp2_with (first | (go_at_call 10; (with_reducible refine (laws_yRows.calls k _ _ t327 _ _ t334 true _ ?side1 ?side2 ?side3 ?side4 A17.out).mono ?_); (case side1 => repeat (first | exact (Kd.N_reads' HO329.out).2.2 | (with_reducible refine Kd.C_alloc ?_ _) | (with_reducible refine Kd.C_drewN ?_ _) | (with_reducible refine Kd.C_drew ?_))); (case side2 => exact (Kd.N_reads' HO329.out).2.1); (case side3 => repeat (first | exact (Kd.N_reads' HO336.out).2.2 | (with_reducible refine Kd.C_alloc ?_ _) | (with_reducible refine Kd.C_drewN ?_ _) | (with_reducible refine Kd.C_drew ?_))); (case side4 => exact (Kd.N_reads' HO336.out).2.1); rintro e w' ⟨rfl, ⟨nd, rfl⟩⟩; obtain ⟨Ao37, co37, eo37⟩ := Kd.R_slice HO332.out; subst eo37; obtain ⟨Ao38, co38, eo38⟩ := Kd.R_slice HO339.out; subst eo38) | (go_at_call 11; (with_reducible refine (laws_ySame.calls k _ _ t330 _ _ t337 false _ ?side1 ?side2 ?side3 ?side4 A19.out).mono ?_); (case side1 => repeat (first | exact (Kd.R_reads' HO332.out).2.2 | (with_reducible refine Kd.C_alloc ?_ _) | (with_reducible refine Kd.C_drewN ?_ _) | (with_reducible refine Kd.C_drew ?_))); (case side2 => exact (Kd.R_reads' HO332.out).2.1); (case side3 => repeat (first | exact (Kd.R_reads' HO339.out).2.2 | (with_reducible refine Kd.C_alloc ?_ _) | (with_reducible refine Kd.C_drewN ?_ _) | (with_reducible refine Kd.C_drew ?_))); (case side4 => exact (Kd.R_reads' HO339.out).2.1); rintro e w' ⟨rfl, ⟨nd, rfl⟩⟩))
          go_meet
          case rel => exact ⟨_, (true), (by first | rfl | (simp; done) | (simp [*]; done)), H', ⟨by first | omega | exact Nat.le_refl _⟩, ⟨by (with_reducible repeat (first | apply Kd.V_alloc | apply Kd.V_drewN | apply Kd.V_drew)); exact Kd.V_mono HO326.out (fun _ hk => ⟨hk.1.1.1.2, hk.1.1.2⟩)⟩, ⟨by (with_reducible repeat (first | apply Kd.N_alloc | apply Kd.N_drewN | apply Kd.N_drew)); exact Kd.N_mono HO329.out (fun _ hk => hk.1.1)⟩, ⟨by (with_reducible repeat (first | apply Kd.R_alloc | apply Kd.R_drewN | apply Kd.R_drew)); exact Kd.R_mono HO332.out (fun _ hk => trivial)⟩, ⟨by repeat (first | (with_reducible first | exact HB.out | apply below_alloc | apply pw_below_drewN | apply below_drew1) | exact HB.out)⟩⟩
      · replace c18 := Bool.eq_false_iff.mpr c18
        subst c18
        have H1 : (laws_FnPartsOfTables.j0 k l1 t324 t327 t330 t333 t341 true) = some r := by rw [if_neg (show ¬ (false = true) by decide)] at H; exact H
        clear H
        have H := H1
        clear H1
        have H' := Aside0.mk H
        clear H
        obtain ⟨Ao39, co39, eo39⟩ := Kd.N_slice HO329.out
        subst eo39
        obtain ⟨Ao40, co40, eo40⟩ := Kd.N_slice HO336.out
        subst eo40
        go_wp2_with (first | (go_at_call 10; (with_reducible refine (laws_yRows.calls k _ _ t327 _ _ t334 false _ ?side1 ?side2 ?side3 ?side4 A17.out).mono ?_); (case side1 => repeat (first | exact (Kd.N_reads' HO329.out).2.2 | (with_reducible refine Kd.C_alloc ?_ _) | (with_reducible refine Kd.C_drewN ?_ _) | (with_reducible refine Kd.C_drew ?_))); (case side2 => exact (Kd.N_reads' HO329.out).2.1); (case side3 => repeat (first | exact (Kd.N_reads' HO336.out).2.2 | (with_reducible refine Kd.C_alloc ?_ _) | (with_reducible refine Kd.C_drewN ?_ _) | (with_reducible refine Kd.C_drew ?_))); (case side4 => exact (Kd.N_reads' HO336.out).2.1); rintro e w' ⟨rfl, ⟨nd, rfl⟩⟩))
        go_meet
        case rel => exact ⟨_, (true), (by first | rfl | (simp; done) | (simp [*]; done)), H', ⟨by first | omega | exact Nat.le_refl _⟩, ⟨by (with_reducible repeat (first | apply Kd.V_alloc | apply Kd.V_drewN | apply Kd.V_drew)); exact Kd.V_mono HO326.out (fun _ hk => ⟨hk.1.1.1.2, hk.1.1.2⟩)⟩, ⟨by (with_reducible repeat (first | apply Kd.N_alloc | apply Kd.N_drewN | apply Kd.N_drew)); exact Kd.N_mono HO329.out (fun _ hk => hk.1.1)⟩, ⟨by (with_reducible repeat (first | apply Kd.R_alloc | apply Kd.R_drewN | apply Kd.R_drew)); exact Kd.R_mono HO332.out (fun _ hk => trivial)⟩, ⟨by repeat (first | (with_reducible first | exact HB.out | apply below_alloc | apply pw_below_drewN | apply below_drew1) | exact HB.out)⟩⟩
   case rest => as_aux_lemma =>
    clear HC10
    try clear c1
    try clear c2
    try clear p2
    try clear c3
    try clear c4
    try clear c5
    try clear c6
    try clear c7
    try clear c8
    try clear c9
    try clear c16
    try clear c16b0
    try clear c16b1
    try clear c16b2
    try clear c18
    try clear c20
    try clear c21
    try clear c21b0
    try clear c21b1
    try clear c21b2
    try clear c26
    try clear c26b0
    try clear c26b1
    obtain ⟨kq, x89_9, rfl, HA, HJ9, HO_5, HO_6, HO_7, HB⟩ := hcut
    cases kq with
    | zero => exact absurd HA.out (by simp [laws_FnPartsOfTables.j0])
    | succ kj9 =>
     have H := HA.out
     clear HA
     simp only [laws_FnPartsOfTables.j0] at H
     by_cases c41 : x89_9 = true
     · subst c41
       have H1 : (some false) = some r := by rw [if_pos rfl] at H; exact H
       clear H
       have H := H1
       clear H1
       obtain rfl := Option.some.inj H
       go_wp2
       go_ret
       exact ⟨by first | rfl | (simp [errW_none, errW_some] <;> rfl) | (simp [*, errW_none, errW_some] <;> rfl), by repeat (first | (with_reducible first | exact HB.out | apply below_alloc | apply pw_below_drewN | apply below_drew1) | exact HB.out)⟩
     · replace c41 := Bool.eq_false_iff.mpr c41
       subst c41
       have H1 : (if t333 = true then (laws_FnPartsOfTables.l0 kj9 l1 t324 t327 t330 t341 (t324.length : Int) 0 t330 (t330.length : Int) 0) else (laws_FnPartsOfTables.j3 kj9 l1)) = some r := by rw [if_neg (show ¬ (false = true) by decide)] at H; exact H
       clear H
       have H := H1
       clear H1
       have HC42 := Aside0.mk H
       clear H
       go_upto_if 90 with (fail)
       go_cut [] (fun wc => ∃ (kq : Nat), Aside0 (laws_FnPartsOfTables.j3 kq l1 = some r) ∧ Aside0 (kq ≤ kj9) ∧ Aside0 (Below w.heap.size w wc))
       case first => as_aux_lemma =>
        have H := HC42.out
        clear HC42
        by_cases c43 : t333 = true
        · subst c43
          have H1 : (laws_FnPartsOfTables.l0 kj9 l1 t324 t327 t330 t341 (t324.length : Int) 0 t330 (t330.length : Int) 0) = some r := by rw [if_pos rfl] at H; exact H
          clear H
          have H := H1
          clear H1
          have H' := Aside0.mk H
          clear H
          obtain ⟨Ao44, co44, eo44⟩ := Kd.R_slice HO_7.out
          subst eo44
          go_wp2
          go_loopg [17, 95] kj9 (fun kq v17 v95 w' => ∃ (x17_2 : Int) (x95_2 : Int), v17 = .int .i64 x17_2 ∧ v95 = .int .i64 x95_2 ∧ Aside0 (laws_FnPartsOfTables.l0 kq l1 t324 t327 t330 t341 (t324.length : Int) x17_2 t330 (t330.length : Int) x95_2 = some r) ∧ Aside0 (kq ≤ kj9) ∧ Aside0 (Kd.V (Kd.slice 3 (Kd.int .i64)) 26 w' w.heap.size (fun k_ => some k_ ≠ (v328 : Value).ownBlock ∧ some k_ ≠ ((.slice Ao44 t330.length co44) : Value).ownBlock ∧ some k_ ≠ ((.slice Ao44 t330.length co44) : Value).ownBlock) (.slice Ao12 t324.length co12) t324) ∧ Aside0 (Kd.N (Kd.slice 3 (Kd.int .i64)) 26 w' w.heap.size (fun k_ => some k_ ≠ ((.slice Ao44 t330.length co44) : Value).ownBlock ∧ some k_ ≠ ((.slice Ao44 t330.length co44) : Value).ownBlock) v328 t327) ∧ Aside0 (Kd.R (Kd.int .i64) 3 w' w.heap.size (fun _ => True) (.slice Ao44 t330.length co44) t330) ∧ Aside0 (Kd.R (Kd.int .i64) 3 w' w.heap.size (fun _ => True) (.slice Ao44 t330.length co44) t330) ∧ Aside0 (Below w.heap.size w w'))
          case atStart => exact ⟨(0), (0), (by first | rfl | (simp; done) | (simp [*]; done)), (by first | rfl | (simp; done) | (simp [*]; done)), H', ⟨Nat.le_refl _⟩, ⟨by (with_reducible repeat (first | apply Kd.V_alloc | apply Kd.V_drewN | apply Kd.V_drew)); exact Kd.V_mono HO_5.out (fun _ hk => ⟨hk.1, ⟨hk.2, hk.2⟩⟩)⟩, ⟨by (with_reducible repeat (first | apply Kd.N_alloc | apply Kd.N_drewN | apply Kd.N_drew)); exact Kd.N_mono HO_6.out (fun _ hk => ⟨hk, hk⟩)⟩, ⟨by (with_reducible repeat (first | apply Kd.R_alloc | apply Kd.R_drewN | apply Kd.R_drew)); exact HO_7.out⟩, ⟨by (with_reducible repeat (first | apply Kd.R_alloc | apply Kd.R_drewN | apply Kd.R_drew)); exact HO_7.out⟩, ⟨by repeat (first | (with_reducible first | exact HB.out | apply below_alloc | apply pw_below_drewN | apply below_drew1) | exact HB.out)⟩⟩
          case round =>
           clear H'
           try clear c1
           try clear c2
           try clear p2
           try clear c3
           try clear c4
           try clear c5
           try clear c6
           try clear c7
           try clear c8
           try clear c9
           try clear c16
           try clear c16b0
           try clear c16b1
           try clear c16b2
           try clear c18
           try clear c20
           try clear c21
           try clear c21b0
           try clear c21b1
           try clear c21b2
           try clear c26
           try clear c26b0
           try clear c26b1
           try clear c41
           try clear c43
           try clear p2
           obtain ⟨x17_2, x95_2, rfl, rfl, HA, HK2, HO_5, HO_6, HO_7, HO_93, HB⟩ := hrel
           cases gk with
           | zero => exact absurd HA.out (by simp [laws_FnPartsOfTables.l0])
           | succ k2 =>
            have H := HA.out
            clear HA
            simp only [laws_FnPartsOfTables.l0] at H
            by_cases c45 : x95_2 < (t330.length : Int)
            · rw [if_pos c45] at H
              have c45b0 : decide (x95_2 < (t330.length : Int)) = true := decide_eq_true c45
              clear c45
              (first | rw [c45b0] | (simp only [i64_w, i32_w]; rw [c45b0]) | skip)
              by_cases c46 : 0 ≤ x95_2
              · rw [if_pos c46] at H
                have c46b0 : decide (0 ≤ x95_2) = true := decide_eq_true c46
                clear c46
                by_cases c47 : x95_2 < (t330.length : Int)
                · rw [if_pos c47] at H
                  have c47b0 : decide (x95_2 < (t330.length : Int)) = true := decide_eq_true c47
                  clear c47
                  by_cases c48 : (rd t330 x95_2) < 1
                  · rw [if_pos c48] at H
                    have c48b0 : decide ((rd t330 x95_2) < 1) = true := decide_eq_true c48
                    clear c48
                    obtain rfl := Option.some.inj H
                    have p347 : 0 ≤ (x95_2 : Int) := of_decide_eq_true (by first | (with_reducible assumption) | assumption)
                    have q347 : x95_2 < (t330.length : Int) := of_decide_eq_true (by first | (with_reducible assumption) | assumption)
                    obtain ⟨ad347, e347, hx347_0⟩ := Kd.at_int (Kd.R_reads' HO_93.out).2.2 x95_2 p347 q347
                    cases e347
                    replace p347 := eq_true p347
                    replace q347 := eq_true q347
                    go_wp2
                    go_ret
                    exact ⟨by first | rfl | (simp [errW_none, errW_some] <;> rfl) | (simp [*, errW_none, errW_some] <;> rfl), by repeat (first | (with_reducible first | exact HB.out | apply below_alloc | apply pw_below_drewN | apply below_drew1) | exact HB.out)⟩
                  · rw [if_neg c48] at H
                    have c48b0 : decide ((rd t330 x95_2) < 1) = false := decide_eq_false c48
                    clear c48
                    have H' := Aside0.mk H
                    clear H
                    have p347 : 0 ≤ (x95_2 : Int) := of_decide_eq_true (by first | (with_reducible assumption) | assumption)
                    have q347 : x95_2 < (t330.length : Int) := of_decide_eq_true (by first | (with_reducible assumption) | assumption)
                    obtain ⟨ad347, e347, hx347_0⟩ := Kd.at_int (Kd.R_reads' HO_93.out).2.2 x95_2 p347 q347
                    cases e347
                    replace p347 := eq_true p347
                    replace q347 := eq_true q347
                    go_wp2
                    go_roundg k2
                    case measure => have := HJ9.out; have := HK2.out; omega
                    case rel => exact ⟨(wrap64 (x17_2 + (rd t330 x95_2))), (wrap64 (x95_2 + 1)), (by first | rfl | (simp; done) | (simp [*]; done)), (by first | rfl | (simp; done) | (simp [*]; done)), H', ⟨by have := HJ9.out; have := HK2.out; omega⟩, ⟨by (with_reducible repeat (first | apply Kd.V_alloc | apply Kd.V_drewN | apply Kd.V_drew)); exact HO_5.out⟩, ⟨by (with_reducible repeat (first | apply Kd.N_alloc | apply Kd.N_drewN | apply Kd.N_drew)); exact HO_6.out⟩, ⟨by (with_reducible repeat (first | apply Kd.R_alloc | apply Kd.R_drewN | apply Kd.R_drew)); exact HO_7.out⟩, ⟨by (with_reducible repeat (first | apply Kd.R_alloc | apply Kd.R_drewN | apply Kd.R_drew)); exact HO_93.out⟩, ⟨by repeat (first | (with_reducible first | exact HB.out | apply below_alloc | apply pw_below_drewN | apply below_drew1) | exact HB.out)⟩⟩
                · rw [if_neg c47] at H
                  exact absurd H (by simp)
              · rw [if_neg c46] at H
                exact absurd H (by simp)
            · rw [if_neg c45] at H
              have c45b0 : decide (x95_2 < (t330.length : Int)) = false := decide_eq_false c45
              clear c45
              (first | rw [c45b0] | (simp only [i64_w, i32_w]; rw [c45b0]) | skip)
              have HC49 := Aside0.mk H
              clear H
              go_upto_region 20 with (fail)
              go_cut [118] (fun v118 wc => ∃ (kq : Nat) (x118_48 : Bool), v118 = .bool x118_48 ∧ Aside0 (laws_FnPartsOfTables.j2 kq l1 t324 t327 t330 t341 x118_48 = some r) ∧ Aside0 (kq ≤ k2) ∧ Aside0 (Kd.V (Kd.slice 3 (Kd.int .i64)) 26 wc w.heap.size (fun k_ => some k_ ≠ (v328 : Value).ownBlock ∧ some k_ ≠ ((.slice Ao44 t330.length co44) : Value).ownBlock) (.slice Ao12 t324.length co12) t324) ∧ Aside0 (Kd.N (Kd.slice 3 (Kd.int .i64)) 26 wc w.heap.size (fun k_ => some k_ ≠ ((.slice Ao44 t330.length co44) : Value).ownBlock) v328 t327) ∧ Aside0 (Kd.R (Kd.int .i64) 3 wc w.heap.size (fun _ => True) (.slice Ao44 t330.length co44) t330) ∧ Aside0 (Below w.heap.size w wc))
              case first => as_aux_lemma =>
               have H := HC49.out
               clear HC49
               by_cases c50 : x17_2 = t341
               · rw [if_pos c50] at H
                 have c50b0 : (x17_2 == t341) = true := beq_iff_eq.mpr c50
                 have c50b1 : (x17_2 != t341) = false := bne_eq_false_iff_eq.mpr c50
                 clear c50
                 (first | rw [c50b0] | (simp only [i64_w, i32_w]; rw [c50b0]) | skip)
                 have H' := Aside0.mk H
                 clear H
                 obtain ⟨Ao51, co51, eo51⟩ := Kd.N_slice HO_6.out
                 subst eo51
                 go_wp2
                 go_meet
                 case rel => exact ⟨_, (decide ((t327.length : Int) > (wrap64 ((wrap64 ((wrap64 ((t324.length : Int) - 1)) * (wrap64 ((t324.length : Int) - 1)))) + 1)))), (by first | rfl | (simp; done) | (simp [*]; done)), H', ⟨by have := HJ9.out; have := HK2.out; first | omega | exact Nat.le_refl _⟩, ⟨by (with_reducible repeat (first | apply Kd.V_alloc | apply Kd.V_drewN | apply Kd.V_drew)); exact Kd.V_mono HO_5.out (fun _ hk => ⟨hk.1, hk.2.1⟩)⟩, ⟨by (with_reducible repeat (first | apply Kd.N_alloc | apply Kd.N_drewN | apply Kd.N_drew)); exact Kd.N_mono HO_6.out (fun _ hk => hk.1)⟩, ⟨by (with_reducible repeat (first | apply Kd.R_alloc | apply Kd.R_drewN | apply Kd.R_drew)); exact HO_7.out⟩, ⟨by repeat (first | (with_reducible first | exact HB.out | apply below_alloc | apply pw_below_drewN | apply below_drew1) | exact HB.out)⟩⟩
               · rw [if_neg c50] at H
                 have c50b0 : (x17_2 == t341) = false := beq_eq_false_iff_ne.mpr c50
                 have c50b1 : (x17_2 != t341) = true := bne_iff_ne.mpr c50
                 (first | rw [c50b0] | (simp only [i64_w, i32_w]; rw [c50b0]) | skip)
                 have H' := Aside0.mk H
                 clear H
                 go_wp2
                 go_meet
                 case rel => exact ⟨_, (true), (by first | rfl | (simp; done) | (simp [*]; done)), H', ⟨by have := HJ9.out; have := HK2.out; first | omega | exact Nat.le_refl _⟩, ⟨by (with_reducible repeat (first | apply Kd.V_alloc | apply Kd.V_drewN | apply Kd.V_drew)); exact Kd.V_mono HO_5.out (fun _ hk => ⟨hk.1, hk.2.1⟩)⟩, ⟨by (with_reducible repeat (first | apply Kd.N_alloc | apply Kd.N_drewN | apply Kd.N_drew)); exact Kd.N_mono HO_6.out (fun _ hk => hk.1)⟩, ⟨by (with_reducible repeat (first | apply Kd.R_alloc | apply Kd.R_drewN | apply Kd.R_drew)); exact HO_7.out⟩, ⟨by repeat (first | (with_reducible first | exact HB.out | apply below_alloc | apply pw_below_drewN | apply below_drew1) | exact HB.out)⟩⟩
              case rest => as_aux_lemma =>
               clear HC49
               try clear c1
               try clear c2
               try clear p2
               try clear c3
               try clear p3
               try clear q3
               try clear hx3
               try clear c4
               try clear c5
               try clear c6
               try clear p6
               try clear c7
               try clear c8
               try clear c9
               try clear c16
               try clear c16b0
               try clear c16b1
               try clear c16b2
               try clear c18
               try clear c20
               try clear c21
               try clear c21b0
               try clear c21b1
               try clear c21b2
               try clear c26
               try clear c26b0
               try clear c26b1
               try clear p34
               try clear q34
               try clear hx34
               try clear c41
               try clear c43
               try clear c45
               try clear c45b0
               try clear c46
               try clear c46b0
               try clear c47
               try clear c47b0
               try clear c48
               try clear c48b0
               try clear c50
               try clear c50b0
               try clear c50b1
               try clear hx347_0
               try clear p2
               try clear p347
               try clear q347
               obtain ⟨kq, x118_48, rfl, HA, HJ48, HO_5, HO_6, HO_7, HB⟩ := hcut
               cases kq with
               | zero => exact absurd HA.out (by simp [laws_FnPartsOfTables.j2])
               | succ kj48 =>
                have H := HA.out
                clear HA
                simp only [laws_FnPartsOfTables.j2] at H
                by_cases c52 : x118_48 = true
                · subst c52
                  have H1 : (some false) = some r := by rw [if_pos rfl] at H; exact H
                  clear H
                  have H := H1
                  clear H1
                  obtain rfl := Option.some.inj H
                  go_wp2
                  go_ret
                  exact ⟨by first | rfl | (simp [errW_none, errW_some] <;> rfl) | (simp [*, errW_none, errW_some] <;> rfl), by repeat (first | (with_reducible first | exact HB.out | apply below_alloc | apply pw_below_drewN | apply below_drew1) | exact HB.out)⟩
                · replace c52 := Bool.eq_false_iff.mpr c52
                  subst c52
                  have H1 : (if t341 > 0 then ((impl_FromParts.f kj48 t327 t330).bind fun bt348 => (if bt348.2 = true then ((laws_yRows.f kj48 bt348.1 t324).bind fun t352 => (if t352 = true then (laws_FnPartsOfTables.j3 kj48 l1) else (some false))) else (some false))) else (laws_FnPartsOfTables.j3 kj48 l1)) = some r := by rw [if_neg (show ¬ (false = true) by decide)] at H; exact H
                  clear H
                  have H := H1
                  clear H1
                  by_cases c53 : t341 > 0
                  · rw [if_pos c53] at H
                    have c53b0 : decide (0 < t341) = true := decide_eq_true c53
                    clear c53
                    replace H := Option.bind_eq_some_iff.mp H
                    obtain ⟨⟨t348, t349⟩, A540, H⟩ := H
                    replace H : (if t349 = true then ((laws_yRows.f kj48 t348 t324).bind fun t352 => (if t352 = true then (laws_FnPartsOfTables.j3 kj48 l1) else (some false))) else (some false)) = some r := H
                    have A54 := Aside0.mk A540
                    clear A540
                    by_cases c55 : t349 = true
                    · subst c55
                      have H1 : ((laws_yRows.f kj48 t348 t324).bind fun t352 => (if t352 = true then (laws_FnPartsOfTables.j3 kj48 l1) else (some false))) = some r := by rw [if_pos rfl] at H; exact H
                      clear H
                      have H := H1
                      clear H1
                      replace H := Option.bind_eq_some_iff.mp H
                      obtain ⟨t352, A560, H⟩ := H
                      replace H : (if t352 = true then (laws_FnPartsOfTables.j3 kj48 l1) else (some false)) = some r := H
                      have A56 := Aside0.mk A560
                      clear A560
                      by_cases c57 : t352 = true
                      · subst c57
                        have H1 : (laws_FnPartsOfTables.j3 kj48 l1) = some r := by rw [if_pos rfl] at H; exact H
                        clear H
                        have H := H1
                        clear H1
                        have H' := Aside0.mk H
                        clear H
                        obtain ⟨Ao58, co58, eo58⟩ := Kd.N_slice HO_6.out
                        subst eo58
                        go_wp2_with (first | ((with_reducible refine gate_callee (f := 12) rfl ?_); refine goesL_ (some 124) rfl rfl Try.func12 (by kernel_rfl) rfl #[.slice Ao58 t327.length co58, .slice Ao44 t330.length co44] rfl (by (try simp only [List.map_toArray, List.map_cons, List.map_nil]); first | done | rfl | (simp only [List.length_drop, List.length_take]; rfl)) ?_; (with_reducible refine (impl_FromParts.calls kj48 _ _ t327 _ _ t330 t348 true _ ?side1 ?side2 ?side3 ?side4 A54.out).mono ?_); (case side1 => repeat (first | exact (Kd.N_reads' HO_6.out).2.2 | (with_reducible refine Kd.C_alloc ?_ _) | (with_reducible refine Kd.C_drewN ?_ _) | (with_reducible refine Kd.C_drew ?_))); (case side2 => exact (Kd.N_reads' HO_6.out).2.1); (case side3 => repeat (first | exact (Kd.R_reads' HO_7.out).2.2 | (with_reducible refine Kd.C_alloc ?_ _) | (with_reducible refine Kd.C_drewN ?_ _) | (with_reducible refine Kd.C_drew ?_))); (case side4 => exact (Kd.R_reads' HO_7.out).2.1); rintro e w59 ⟨v350, rfl, ho0, hb⟩; refine ⟨_, rfl, ?_⟩; have n0_ := Aside0.mk (Kd.V_elder' (by (with_reducible repeat (first | apply Kd.V_alloc | apply Kd.V_drewN | apply Kd.V_drew)); exact HO_5.out) (Kd.N_base (Kd.S_N ho0)) hb); have n1_ := Aside0.mk (Kd.N_elder' (by (with_reducible repeat (first | apply Kd.N_alloc | apply Kd.N_drewN | apply Kd.N_drew)); exact HO_6.out) (Kd.N_base (Kd.S_N ho0)) hb); have n2_ := Aside0.mk (Kd.R_below (by (with_reducible repeat (first | apply Kd.R_alloc | apply Kd.R_drewN | apply Kd.R_drew)); exact HO_7.out) hb); have n3_ := Aside0.mk (Kd.N_lower (Kd.N_mono (ok' := fun k_ => some k_ ≠ (.slice Ao58 t327.length co58 : Value).ownBlock ∧ some k_ ≠ (.slice Ao44 t330.length co44 : Value).ownBlock) (Kd.S_N (Kd.S_bound ho0)) (fun k_ hk_ => ⟨(Kd.fresh' (Kd.N_lt (by (with_reducible repeat (first | apply Kd.N_alloc | apply Kd.N_drewN | apply Kd.N_drew)); exact HO_6.out)) k_ hk_.2.1), (Kd.fresh' (Kd.R_lt (by (with_reducible repeat (first | apply Kd.R_alloc | apply Kd.R_drewN | apply Kd.R_drew)); exact HO_7.out)) k_ hk_.2.1)⟩)) (below_size (by repeat (first | (with_reducible first | exact HB.out | apply below_alloc | apply pw_below_drewN | apply below_drew1) | exact HB.out)))); have n4_ := Aside0.mk (below_step (by repeat (first | (with_reducible first | exact HB.out | apply below_alloc | apply pw_below_drewN | apply below_drew1) | exact HB.out)) hb); clear HO_5; clear HO_6; clear HO_7; clear HB; have HO_5 := n0_; have HO_6 := n1_; have HO_7 := n2_; have HO351 := n3_; have HB := n4_; clear n0_ n1_ n2_ n3_ n4_; (try clear hb); (try clear hb2); (try clear hk); (try clear hi); (try clear ho0); obtain ⟨Ao60, co60, eo60⟩ := Kd.N_slice HO351.out; subst eo60) | (go_at_call 10; (with_reducible refine (laws_yRows.calls kj48 _ _ t348 _ _ t324 true _ ?side1 ?side2 ?side3 ?side4 A56.out).mono ?_); (case side1 => repeat (first | exact (Kd.N_reads' HO351.out).2.2 | (with_reducible refine Kd.C_alloc ?_ _) | (with_reducible refine Kd.C_drewN ?_ _) | (with_reducible refine Kd.C_drew ?_))); (case side2 => exact (Kd.N_reads' HO351.out).2.1); (case side3 => repeat (first | exact (Kd.V_reads' HO_5.out).2.2 | (with_reducible refine Kd.C_alloc ?_ _) | (with_reducible refine Kd.C_drewN ?_ _) | (with_reducible refine Kd.C_drew ?_))); (case side4 => exact (Kd.V_reads' HO_5.out).2.1); rintro e w' ⟨rfl, ⟨nd, rfl⟩⟩))
                        go_meet
                        case rel => exact ⟨_, H', ⟨by have := HJ9.out; have := HK2.out; have := HJ48.out; first | omega | exact Nat.le_refl _⟩, ⟨by repeat (first | (with_reducible first | exact HB.out | apply below_alloc | apply pw_below_drewN | apply below_drew1) | exact HB.out)⟩⟩
                      · replace c57 := Bool.eq_false_iff.mpr c57
                        subst c57
                        have H1 : (some false) = some r := by rw [if_neg (show ¬ (false = true) by decide)] at H; exact H
                        clear H
                        have H := H1
                        clear H1
                        obtain rfl := Option.some.inj H
                        obtain ⟨Ao61, co61, eo61⟩ := Kd.N_slice HO_6.out
                        subst eo61
                        go_wp2_with (first | ((with_reducible refine gate_callee (f := 12) rfl ?_); refine goesL_ (some 124) rfl rfl Try.func12 (by kernel_rfl) rfl #[.slice Ao61 t327.length co61, .slice Ao44 t330.length co44] rfl (by (try simp only [List.map_toArray, List.map_cons, List.map_nil]); first | done | rfl | (simp only [List.length_drop, List.length_take]; rfl)) ?_; (with_reducible refine (impl_FromParts.calls kj48 _ _ t327 _ _ t330 t348 true _ ?side1 ?side2 ?side3 ?side4 A54.out).mono ?_); (case side1 => repeat (first | exact (Kd.N_reads' HO_6.out).2.2 | (with_reducible refine Kd.C_alloc ?_ _) | (with_reducible refine Kd.C_drewN ?_ _) | (with_reducible refine Kd.C_drew ?_))); (case side2 => exact (Kd.N_reads' HO_6.out).2.1); (case side3 => repeat (first | exact (Kd.R_reads' HO_7.out).2.2 | (with_reducible refine Kd.C_alloc ?_ _) | (with_reducible refine Kd.C_drewN ?_ _) | (with_reducible refine Kd.C_drew ?_))); (case side4 => exact (Kd.R_reads' HO_7.out).2.1); rintro e w62 ⟨v350, rfl, ho0, hb⟩; refine ⟨_, rfl, ?_⟩; have n0_ := Aside0.mk (Kd.V_elder' (by (with_reducible repeat (first | apply Kd.V_alloc | apply Kd.V_drewN | apply Kd.V_drew)); exact HO_5.out) (Kd.N_base (Kd.S_N ho0)) hb); have n1_ := Aside0.mk (Kd.N_elder' (by (with_reducible repeat (first | apply Kd.N_alloc | apply Kd.N_drewN | apply Kd.N_drew)); exact HO_6.out) (Kd.N_base (Kd.S_N ho0)) hb); have n2_ := Aside0.mk (Kd.R_below (by (with_reducible repeat (first | apply Kd.R_alloc | apply Kd.R_drewN | apply Kd.R_drew)); exact HO_7.out) hb); have n3_ := Aside0.mk (Kd.N_lower (Kd.N_mono (ok' := fun k_ => some k_ ≠ (.slice Ao61 t327.length co61 : Value).ownBlock ∧ some k_ ≠ (.slice Ao44 t330.length co44 : Value).ownBlock) (Kd.S_N (Kd.S_bound ho0)) (fun k_ hk_ => ⟨(Kd.fresh' (Kd.N_lt (by (with_reducible repeat (first | apply Kd.N_alloc | apply Kd.N_drewN | apply Kd.N_drew)); exact HO_6.out)) k_ hk_.2.1), (Kd.fresh' (Kd.R_lt (by (with_reducible repeat (first | apply Kd.R_alloc | apply Kd.R_drewN | apply Kd.R_drew)); exact HO_7.out)) k_ hk_.2.1)⟩)) (below_size (by repeat (first | (with_reducible first | exact HB.out | apply below_alloc | apply pw_below_drewN | apply below_drew1) | exact HB.out)))); have n4_ := Aside0.mk (below_step (by repeat (first | (with_reducible first | exact HB.out | apply below_alloc | apply pw_below_drewN | apply below_drew1) | exact HB.out)) hb); clear HO_5; clear HO_6; clear HO_7; clear HB; have HO_5 := n0_; have HO_6 := n1_; have HO_7 := n2_; have HO351 := n3_; have HB := n4_; clear n0_ n1_ n2_ n3_ n4_; (try clear hb); (try clear hb2); (try clear hk); (try clear hi); (try clear ho0); obtain ⟨Ao63, co63, eo63⟩ := Kd.N_slice HO351.out; subst eo63) | (go_at_call 10; (with_reducible refine (laws_yRows.calls kj48 _ _ t348 _ _ t324 false _ ?side1 ?side2 ?side3 ?side4 A56.out).mono ?_); (case side1 => repeat (first | exact (Kd.N_reads' HO351.out).2.2 | (with_reducible refine Kd.C_alloc ?_ _) | (with_reducible refine Kd.C_drewN ?_ _) | (with_reducible refine Kd.C_drew ?_))); (case side2 => exact (Kd.N_reads' HO351.out).2.1); (case side3 => repeat (first | exact (Kd.V_reads' HO_5.out).2.2 | (with_reducible refine Kd.C_alloc ?_ _) | (with_reducible refine Kd.C_drewN ?_ _) | (with_reducible refine Kd.C_drew ?_))); (case side4 => exact (Kd.V_reads' HO_5.out).2.1); rintro e w' ⟨rfl, ⟨nd, rfl⟩⟩))
                        go_ret
                        exact ⟨by first | rfl | (simp [errW_none, errW_some] <;> rfl) | (simp [*, errW_none, errW_some] <;> rfl), by repeat (first | (with_reducible first | exact HB.out | apply below_alloc | apply pw_below_drewN | apply below_drew1) | exact HB.out)⟩
                    · replace c55 := Bool.eq_false_iff.mpr c55
                      subst c55
                      have H1 : (some false) = some r := by rw [if_neg (show ¬ (false = true) by decide)] at H; exact H
                      clear H
                      have H := H1
                      clear H1
                      obtain rfl := Option.some.inj H
                      obtain ⟨Ao64, co64, eo64⟩ := Kd.N_slice HO_6.out
                      subst eo64
                      go_wp2_with (first | ((with_reducible refine gate_callee (f := 12) rfl ?_); refine goesL_ (some 124) rfl rfl Try.func12 (by kernel_rfl) rfl #[.slice Ao64 t327.length co64, .slice Ao44 t330.length co44] rfl (by (try simp only [List.map_toArray, List.map_cons, List.map_nil]); first | done | rfl | (simp only [List.length_drop, List.length_take]; rfl)) ?_; (with_reducible refine (impl_FromParts.calls kj48 _ _ t327 _ _ t330 t348 false _ ?side1 ?side2 ?side3 ?side4 A54.out).mono ?_); (case side1 => repeat (first | exact (Kd.N_reads' HO_6.out).2.2 | (with_reducible refine Kd.C_alloc ?_ _) | (with_reducible refine Kd.C_drewN ?_ _) | (with_reducible refine Kd.C_drew ?_))); (case side2 => exact (Kd.N_reads' HO_6.out).2.1); (case side3 => repeat (first | exact (Kd.R_reads' HO_7.out).2.2 | (with_reducible refine Kd.C_alloc ?_ _) | (with_reducible refine Kd.C_drewN ?_ _) | (with_reducible refine Kd.C_drew ?_))); (case side4 => exact (Kd.R_reads' HO_7.out).2.1); rintro e w65 ⟨v350, rfl, ho0, hb⟩; refine ⟨_, rfl, ?_⟩; have n0_ := Aside0.mk (Kd.V_elder' (by (with_reducible repeat (first | apply Kd.V_alloc | apply Kd.V_drewN | apply Kd.V_drew)); exact HO_5.out) (Kd.N_base (Kd.S_N ho0)) hb); have n1_ := Aside0.mk (Kd.N_elder' (by (with_reducible repeat (first | apply Kd.N_alloc | apply Kd.N_drewN | apply Kd.N_drew)); exact HO_6.out) (Kd.N_base (Kd.S_N ho0)) hb); have n2_ := Aside0.mk (Kd.R_below (by (with_reducible repeat (first | apply Kd.R_alloc | apply Kd.R_drewN | apply Kd.R_drew)); exact HO_7.out) hb); have n3_ := Aside0.mk (Kd.N_lower (Kd.N_mono (ok' := fun k_ => some k_ ≠ (.slice Ao64 t327.length co64 : Value).ownBlock ∧ some k_ ≠ (.slice Ao44 t330.length co44 : Value).ownBlock) (Kd.S_N (Kd.S_bound ho0)) (fun k_ hk_ => ⟨(Kd.fresh' (Kd.N_lt (by (with_reducible repeat (first | apply Kd.N_alloc | apply Kd.N_drewN | apply Kd.N_drew)); exact HO_6.out)) k_ hk_.2.1), (Kd.fresh' (Kd.R_lt (by (with_reducible repeat (first | apply Kd.R_alloc | apply Kd.R_drewN | apply Kd.R_drew)); exact HO_7.out)) k_ hk_.2.1)⟩)) (below_size (by repeat (first | (with_reducible first | exact HB.out | apply below_alloc | apply pw_below_drewN | apply below_drew1) | exact HB.out)))); have n4_ := Aside0.mk (below_step (by repeat (first | (with_reducible first | exact HB.out | apply below_alloc | apply pw_below_drewN | apply below_drew1) | exact HB.out)) hb); clear HO_5; clear HO_6; clear HO_7; clear HB; have HO_5 := n0_; have HO_6 := n1_; have HO_7 := n2_; have HO351 := n3_; have HB := n4_; clear n0_ n1_ n2_ n3_ n4_; (try clear hb); (try clear hb2); (try clear hk); (try clear hi); (try clear ho0)))
                      go_ret
                      exact ⟨by first | rfl | (simp [errW_none, errW_some] <;> rfl) | (simp [*, errW_none, errW_some] <;> rfl), by repeat (first | (with_reducible first | exact HB.out | apply below_alloc | apply pw_below_drewN | apply below_drew1) | exact HB.out)⟩
                  · rw [if_neg c53] at H
                    have c53b0 : decide (0 < t341) = false := decide_eq_false c53
                    clear c53
                    have H' := Aside0.mk H
                    clear H
                    go_wp2
                    go_meet
                    case rel => exact ⟨_, H', ⟨by have := HJ9.out; have := HK2.out; have := HJ48.out; first | omega | exact Nat.le_refl _⟩, ⟨by repeat (first | (with_reducible first | exact HB.out | apply below_alloc | apply pw_below_drewN | apply below_drew1) | exact HB.out)⟩⟩
        · replace c43 := Bool.eq_false_iff.mpr c43
          subst c43
          have H1 : (laws_FnPartsOfTables.j3 kj9 l1) = some r := by rw [if_neg (show ¬ (false = true) by decide)] at H; exact H
          clear H
          have H := H1
          clear H1
          have H' := Aside0.mk H
          clear H
          go_wp2
          go_meet
          case rel => exact ⟨_, H', ⟨by have := HJ9.out; first | omega | exact Nat.le_refl _⟩, ⟨by repeat (first | (with_reducible first | exact HB.out | apply below_alloc | apply pw_below_drewN | apply below_drew1) | exact HB.out)⟩⟩
       case rest => as_aux_lemma =>
        clear HC42
        try clear c1
        try clear c2
        try clear p2
        try clear c3
        try clear p3
        try clear q3
        try clear hx3
        try clear c4
        try clear c5
        try clear c6
        try clear p6
        try clear c7
        try clear c8
        try clear c9
        try clear c12
        try clear c16
        try clear c16b0
        try clear c16b1
        try clear c16b2
        try clear c18
        try clear c20
        try clear c21
        try clear c21b0
        try clear c21b1
        try clear c21b2
        try clear c26
        try clear c26b0
        try clear c26b1
        try clear p34
        try clear q34
        try clear hx34
        try clear c41
        try clear c43
        try clear c45
        try clear c45b0
        try clear c46
        try clear c46b0
        try clear c47
        try clear c47b0
        try clear c48
        try clear c48b0
        try clear c50
        try clear c50b0
        try clear c50b1
        try clear c52
        try clear c53
        try clear c53b0
        try clear c55
        try clear c57
        try clear p64
        try clear hx347_0
        try clear p2
        try clear p3
        try clear p34
        try clear p347
        try clear p6
        try clear q3
        try clear q34
        try clear q347
        obtain ⟨kq, HA, HJ41, HB⟩ := hcut
        cases kq with
        | zero => exact absurd HA.out (by simp [laws_FnPartsOfTables.j3])
        | succ kj41 =>
         have H := HA.out
         clear HA
         simp only [laws_FnPartsOfTables.j3] at H
         replace H := Option.bind_eq_some_iff.mp H
         obtain ⟨⟨t353, t354⟩, A660, H⟩ := H
         replace H : ((impl_FromParts.f kj41 t353 t354).bind fun bt359 => ((spec_FromParts.f kj41 t353 t354).bind fun bt363 => (if (bt359.2 != bt363.2) = true then (laws_FnPartsOfTables.j4 kj41 t354 bt359.1 bt359.2 true) else ((laws_yRows.f kj41 bt359.1 bt363.1).bind fun t367 => (laws_FnPartsOfTables.j4 kj41 t354 bt359.1 bt359.2 (!t367)))))) = some r := H
         have A66 := Aside0.mk A660
         clear A660
         replace H := Option.bind_eq_some_iff.mp H
         obtain ⟨⟨t359, t360⟩, A670, H⟩ := H
         replace H : ((spec_FromParts.f kj41 t353 t354).bind fun bt363 => (if (t360 != bt363.2) = true then (laws_FnPartsOfTables.j4 kj41 t354 t359 t360 true) else ((laws_yRows.f kj41 t359 bt363.1).bind fun t367 => (laws_FnPartsOfTables.j4 kj41 t354 t359 t360 (!t367))))) = some r := H
         have A67 := Aside0.mk A670
         clear A670
         replace H := Option.bind_eq_some_iff.mp H
         obtain ⟨⟨t363, t366⟩, A680, H⟩ := H
         replace H : (if (t360 != t366) = true then (laws_FnPartsOfTables.j4 kj41 t354 t359 t360 true) else ((laws_yRows.f kj41 t359 t363).bind fun t367 => (laws_FnPartsOfTables.j4 kj41 t354 t359 t360 (!t367)))) = some r := H
         have A68 := Aside0.mk A680
         clear A680
         have HC69 := Aside0.mk H
         clear H
         go_upto_region 29 with (first | ((with_reducible refine gate_callee (f := 13) rfl ?_); refine goesL_ (some 137) rfl rfl Try.func13 (by kernel_rfl) rfl #[.slice A1 l1.length c1] rfl (by (try simp only [List.map_toArray, List.map_cons, List.map_nil]); first | done | rfl | (simp only [List.length_drop, List.length_take]; rfl)) ?_; (with_reducible refine (spec_DrawFromParts.calls kj41 _ _ l1 t353 t354 _ ?side1 ?side2 A66.out).mono ?_); (case side1 => repeat (first | exact (Kd.C_below HR1.out HB.out) | (with_reducible refine Kd.C_alloc ?_ _) | (with_reducible refine Kd.C_drewN ?_ _) | (with_reducible refine Kd.C_drew ?_))); (case side2 => exact HC1.out); rintro e w70 ⟨v355, v357, rfl, ho0, ho1, hb⟩; refine ⟨_, rfl, ?_⟩; have n0_ := Aside0.mk (Kd.N_lower (Kd.N_mono (ok' := fun k_ => some k_ ≠ (v357 : Value).ownBlock) (Kd.S_N (Kd.S_bound ho0)) (fun k_ hk_ => hk_.1)) (below_size (by repeat (first | (with_reducible first | exact HB.out | apply below_alloc | apply pw_below_drewN | apply below_drew1) | exact HB.out)))); have n1_ := Aside0.mk (Kd.R_lower ho1 (below_size (by repeat (first | (with_reducible first | exact HB.out | apply below_alloc | apply pw_below_drewN | apply below_drew1) | exact HB.out)))); have n2_ := Aside0.mk (below_step (by repeat (first | (with_reducible first | exact HB.out | apply below_alloc | apply pw_below_drewN | apply below_drew1) | exact HB.out)) hb); clear HB; have HO356 := n0_; have HO358 := n1_; have HB := n2_; clear n0_ n1_ n2_; (try clear hb); (try clear hb2); (try clear hk); (try clear hi); (try clear ho0); (try clear ho1); obtain ⟨Ao71, co71, eo71⟩ := Kd.N_slice HO356.out; subst eo71; obtain ⟨Ao72, co72, eo72⟩ := Kd.R_slice HO358.out; subst eo72) | ((with_reducible refine gate_callee (f := 12) rfl ?_); refine goesL_ (some 143) rfl rfl Try.func12 (by kernel_rfl) rfl #[.slice Ao71 t353.length co71, .slice Ao72 t354.length co72] rfl (by (try simp only [List.map_toArray, List.map_cons, List.map_nil]); first | done | rfl | (simp only [List.length_drop, List.length_take]; rfl)) ?_; (with_reducible refine (impl_FromParts.calls kj41 _ _ t353 _ _ t354 t359 t360 _ ?side1 ?side2 ?side3 ?side4 A67.out).mono ?_); (case side1 => repeat (first | exact (Kd.N_reads' HO356.out).2.2 | (with_reducible refine Kd.C_alloc ?_ _) | (with_reducible refine Kd.C_drewN ?_ _) | (with_reducible refine Kd.C_drew ?_))); (case side2 => exact (Kd.N_reads' HO356.out).2.1); (case side3 => repeat (first | exact (Kd.R_reads' HO358.out).2.2 | (with_reducible refine Kd.C_alloc ?_ _) | (with_reducible refine Kd.C_drewN ?_ _) | (with_reducible refine Kd.C_drew ?_))); (case side4 => exact (Kd.R_reads' HO358.out).2.1); rintro e w73 ⟨v361, rfl, ho0, hb⟩; refine ⟨_, rfl, ?_⟩; have n0_ := Aside0.mk (Kd.N_elder' (by (with_reducible repeat (first | apply Kd.N_alloc | apply Kd.N_drewN | apply Kd.N_drew)); exact HO356.out) (Kd.N_base (Kd.S_N ho0)) hb); have n1_ := Aside0.mk (Kd.R_below (by (with_reducible repeat (first | apply Kd.R_alloc | apply Kd.R_drewN | apply Kd.R_drew)); exact HO358.out) hb); have n2_ := Aside0.mk (Kd.N_lower (Kd.N_mono (ok' := fun k_ => some k_ ≠ (.slice Ao71 t353.length co71 : Value).ownBlock ∧ some k_ ≠ (.slice Ao72 t354.length co72 : Value).ownBlock) (Kd.S_N (Kd.S_bound ho0)) (fun k_ hk_ => ⟨(Kd.fresh' (Kd.N_lt (by (with_reducible repeat (first | apply Kd.N_alloc | apply Kd.N_drewN | apply Kd.N_drew)); exact HO356.out)) k_ hk_.2.1), (Kd.fresh' (Kd.R_lt (by (with_reducible repeat (first | apply Kd.R_alloc | apply Kd.R_drewN | apply Kd.R_drew)); exact HO358.out)) k_ hk_.2.1)⟩)) (below_size (by repeat (first | (with_reducible first | exact HB.out | apply below_alloc | apply pw_below_drewN | apply below_drew1) | exact HB.out)))); have n3_ := Aside0.mk (below_step (by repeat (first | (with_reducible first | exact HB.out | apply below_alloc | apply pw_below_drewN | apply below_drew1) | exact HB.out)) hb); clear HO356; clear HO358; clear HB; have HO356 := n0_; have HO358 := n1_; have HO362 := n2_; have HB := n3_; clear n0_ n1_ n2_ n3_; (try clear hb); (try clear hb2); (try clear hk); (try clear hi); (try clear ho0)) | ((with_reducible refine gate_callee (f := 14) rfl ?_); refine goesL_ (some 149) rfl rfl Try.func14 (by kernel_rfl) rfl #[.slice Ao71 t353.length co71, .slice Ao72 t354.length co72] rfl (by (try simp only [List.map_toArray, List.map_cons, List.map_nil]); first | done | rfl | (simp only [List.length_drop, List.length_take]; rfl)) ?_; (with_reducible refine (spec_FromParts.calls kj41 _ _ t353 _ _ t354 t363 t366 _ ?side1 ?side2 ?side3 ?side4 A68.out).mono ?_); (case side1 => repeat (first | exact (Kd.N_reads' HO356.out).2.2 | (with_reducible refine Kd.C_alloc ?_ _) | (with_reducible refine Kd.C_drewN ?_ _) | (with_reducible refine Kd.C_drew ?_))); (case side2 => exact (Kd.N_reads' HO356.out).2.1); (case side3 => repeat (first | exact (Kd.R_reads' HO358.out).2.2 | (with_reducible refine Kd.C_alloc ?_ _) | (with_reducible refine Kd.C_drewN ?_ _) | (with_reducible refine Kd.C_drew ?_))); (case side4 => exact (Kd.R_reads' HO358.out).2.1); rintro e w74 ⟨v364, rfl, ho0, hb⟩; refine ⟨_, rfl, ?_⟩; have n0_ := Aside0.mk (Kd.N_below (by (with_reducible repeat (first | apply Kd.N_alloc | apply Kd.N_drewN | apply Kd.N_drew)); exact HO356.out) hb); have n1_ := Aside0.mk (Kd.R_below (by (with_reducible repeat (first | apply Kd.R_alloc | apply Kd.R_drewN | apply Kd.R_drew)); exact HO358.out) hb); have n2_ := Aside0.mk (Kd.N_below (by (with_reducible repeat (first | apply Kd.N_alloc | apply Kd.N_drewN | apply Kd.N_drew)); exact HO362.out) hb); have n3_ := Aside0.mk (Kd.V_lower (Kd.V_mono (ok' := fun k_ => some k_ ≠ (.slice Ao71 t353.length co71 : Value).ownBlock ∧ some k_ ≠ (.slice Ao72 t354.length co72 : Value).ownBlock ∧ some k_ ≠ (v361 : Value).ownBlock) ho0 (fun k_ hk_ => ⟨(Kd.fresh' (Kd.N_lt (by (with_reducible repeat (first | apply Kd.N_alloc | apply Kd.N_drewN | apply Kd.N_drew)); exact HO356.out)) k_ hk_), (Kd.fresh' (Kd.R_lt (by (with_reducible repeat (first | apply Kd.R_alloc | apply Kd.R_drewN | apply Kd.R_drew)); exact HO358.out)) k_ hk_), (Kd.fresh' (Kd.N_lt (by (with_reducible repeat (first | apply Kd.N_alloc | apply Kd.N_drewN | apply Kd.N_drew)); exact HO362.out)) k_ hk_)⟩)) (below_size (by repeat (first | (with_reducible first | exact HB.out | apply below_alloc | apply pw_below_drewN | apply below_drew1) | exact HB.out)))); have n4_ := Aside0.mk (below_step (by repeat (first | (with_reducible first | exact HB.out | apply below_alloc | apply pw_below_drewN | apply below_drew1) | exact HB.out)) hb); clear HO356; clear HO358; clear HO362; clear HB; have HO356 := n0_; have HO358 := n1_; have HO362 := n2_; have HO365 := n3_; have HB := n4_; clear n0_ n1_ n2_ n3_ n4_; (try clear hb); (try clear hb2); (try clear hk); (try clear hi); (try clear ho0)))
         (try simp only [Act.put, List.setIfInBounds_toArray, List.set_cons_zero, List.set_cons_succ])
         go_cut [160] (fun v160 wc => ∃ (kq : Nat) (x160_68 : Bool), v160 = .bool x160_68 ∧ Aside0 (laws_FnPartsOfTables.j4 kq t354 t359 t360 x160_68 = some r) ∧ Aside0 (kq ≤ kj41) ∧ Aside0 (Kd.R (Kd.int .i64) 3 wc w.heap.size (fun _ => True) (.slice Ao72 t354.length co72) t354) ∧ Aside0 (Kd.N (Kd.slice 3 (Kd.int .i64)) 26 wc w.heap.size (fun k_ => some k_ ≠ ((.slice Ao72 t354.length co72) : Value).ownBlock) v361 t359) ∧ Aside0 (Below w.heap.size w wc))
         case first => as_aux_lemma =>
          have H := HC69.out
          clear HC69
          by_cases c75 : (t360 != t366) = true
          · rw [if_pos c75] at H
            have c75b0 : (t360 != t366) = true := c75
            (try (have c75b1 : decide (t360 = t366) = false := by simpa using c75))
            (try (have c75b2 : (t360 == t366) = false := by simpa using c75))
            (try (have c75b3 : ¬ (t360 = t366) := by simpa using c75))
            clear c75
            (first | rw [c75b0] | (simp only [i64_w, i32_w]; rw [c75b0]) | skip)
            have H' := Aside0.mk H
            clear H
            go_wp2
            go_meet
            case rel => exact ⟨_, (true), (by first | rfl | (simp; done) | (simp [*]; done)), H', ⟨by have := HJ9.out; have := HJ41.out; first | omega | exact Nat.le_refl _⟩, ⟨by (with_reducible repeat (first | apply Kd.R_alloc | apply Kd.R_drewN | apply Kd.R_drew)); exact HO358.out⟩, ⟨by (with_reducible repeat (first | apply Kd.N_alloc | apply Kd.N_drewN | apply Kd.N_drew)); exact Kd.N_mono HO362.out (fun _ hk => hk.2)⟩, ⟨by repeat (first | (with_reducible first | exact HB.out | apply below_alloc | apply pw_below_drewN | apply below_drew1) | exact HB.out)⟩⟩
          · rw [if_neg c75] at H
            have c75b0 : (t360 != t366) = false := by simpa using c75
            (try (have c75b1 : decide (t360 = t366) = true := by simpa using c75))
            (try (have c75b2 : (t360 == t366) = true := by simpa using c75))
            clear c75
            (first | rw [c75b0] | (simp only [i64_w, i32_w]; rw [c75b0]) | skip)
            replace H := Option.bind_eq_some_iff.mp H
            obtain ⟨t367, A760, H⟩ := H
            replace H : (laws_FnPartsOfTables.j4 kj41 t354 t359 t360 (!t367)) = some r := H
            have A76 := Aside0.mk A760
            clear A760
            have H' := Aside0.mk H
            clear H
            obtain ⟨Ao77, co77, eo77⟩ := Kd.N_slice HO362.out
            subst eo77
            obtain ⟨Ao78, co78, eo78⟩ := Kd.V_slice HO365.out
            subst eo78
            go_wp2_with (first | (go_at_call 10; (with_reducible refine (laws_yRows.calls kj41 _ _ t359 _ _ t363 t367 _ ?side1 ?side2 ?side3 ?side4 A76.out).mono ?_); (case side1 => repeat (first | exact (Kd.N_reads' HO362.out).2.2 | (with_reducible refine Kd.C_alloc ?_ _) | (with_reducible refine Kd.C_drewN ?_ _) | (with_reducible refine Kd.C_drew ?_))); (case side2 => exact (Kd.N_reads' HO362.out).2.1); (case side3 => repeat (first | exact (Kd.V_reads' HO365.out).2.2 | (with_reducible refine Kd.C_alloc ?_ _) | (with_reducible refine Kd.C_drewN ?_ _) | (with_reducible refine Kd.C_drew ?_))); (case side4 => exact (Kd.V_reads' HO365.out).2.1); rintro e w' ⟨rfl, ⟨nd, rfl⟩⟩))
            go_meet
            case rel => exact ⟨_, (!t367), (by first | rfl | (simp; done) | (simp [*]; done)), H', ⟨by have := HJ9.out; have := HJ41.out; first | omega | exact Nat.le_refl _⟩, ⟨by (with_reducible repeat (first | apply Kd.R_alloc | apply Kd.R_drewN | apply Kd.R_drew)); exact HO358.out⟩, ⟨by (with_reducible repeat (first | apply Kd.N_alloc | apply Kd.N_drewN | apply Kd.N_drew)); exact Kd.N_mono HO362.out (fun _ hk => hk.2)⟩, ⟨by repeat (first | (with_reducible first | exact HB.out | apply below_alloc | apply pw_below_drewN | apply below_drew1) | exact HB.out)⟩⟩
         case rest => as_aux_lemma =>
          clear HC69
          try clear c1
          try clear c2
          try clear p2
          try clear c3
          try clear p3
          try clear q3
          try clear hx3
          try clear c4
          try clear c5
          try clear c6
          try clear p6
          try clear c7
          try clear c8
          try clear c9
          try clear c12
          try clear c13
          try clear c14
          try clear c16
          try clear c16b0
          try clear c16b1
          try clear c16b2
          try clear c18
          try clear c20
          try clear c21
          try clear c21b0
          try clear c21b1
          try clear c21b2
          try clear c26
          try clear c26b0
          try clear c26b1
          try clear p34
          try clear q34
          try clear hx34
          try clear c41
          try clear c43
          try clear c45
          try clear c45b0
          try clear c46
          try clear c46b0
          try clear c47
          try clear c47b0
          try clear c48
          try clear c48b0
          try clear c50
          try clear c50b0
          try clear c50b1
          try clear c52
          try clear c53
          try clear c53b0
          try clear c55
          try clear c57
          try clear p64
          try clear c75
          try clear c75b0
          try clear c75b1
          try clear c75b2
          try clear hx347_0
          try clear p2
          try clear p3
          try clear p34
          try clear p347
          try clear p6
          try clear p64
          try clear q3
          try clear q34
          try clear q347
          obtain ⟨kq, x160_68, rfl, HA, HJ68, HO_23, HO_24, HB⟩ := hcut
          cases kq with
          | zero => exact absurd HA.out (by simp [laws_FnPartsOfTables.j4])
          | succ kj68 =>
           have H := HA.out
           clear HA
           simp only [laws_FnPartsOfTables.j4] at H
           by_cases c79 : x160_68 = true
           · subst c79
             have H1 : (some false) = some r := by rw [if_pos rfl] at H; exact H
             clear H
             have H := H1
             clear H1
             obtain rfl := Option.some.inj H
             go_wp2
             go_ret
             exact ⟨by first | rfl | (simp [errW_none, errW_some] <;> rfl) | (simp [*, errW_none, errW_some] <;> rfl), by repeat (first | (with_reducible first | exact HB.out | apply below_alloc | apply pw_below_drewN | apply below_drew1) | exact HB.out)⟩
           · replace c79 := Bool.eq_false_iff.mpr c79
             subst c79
             have H1 : (if t360 = true then (laws_FnPartsOfTables.l1 kj68 t359 0 t354 (t354.length : Int) 0) else (some true)) = some r := by rw [if_neg (show ¬ (false = true) by decide)] at H; exact H
             clear H
             have H := H1
             clear H1
             by_cases c80 : t360 = true
             · subst c80
               have H1 : (laws_FnPartsOfTables.l1 kj68 t359 0 t354 (t354.length : Int) 0) = some r := by rw [if_pos rfl] at H; exact H
               clear H
               have H := H1
               clear H1
               have H' := Aside0.mk H
               clear H
               go_wp2
               go_loopg [28, 164] kj68 (fun kq v28 v164 w' => ∃ (x28_4 : Int) (x164_4 : Int), v28 = .int .i64 x28_4 ∧ v164 = .int .i64 x164_4 ∧ Aside0 (laws_FnPartsOfTables.l1 kq t359 x28_4 t354 (t354.length : Int) x164_4 = some r) ∧ Aside0 (kq ≤ kj68) ∧ Aside0 (Kd.N (Kd.slice 3 (Kd.int .i64)) 26 w' w.heap.size (fun k_ => some k_ ≠ ((.slice Ao72 t354.length co72) : Value).ownBlock) v361 t359) ∧ Aside0 (Kd.R (Kd.int .i64) 3 w' w.heap.size (fun _ => True) (.slice Ao72 t354.length co72) t354) ∧ Aside0 (Below w.heap.size w w'))
               case atStart => exact ⟨(0), (0), (by first | rfl | (simp; done) | (simp [*]; done)), (by first | rfl | (simp; done) | (simp [*]; done)), H', ⟨Nat.le_refl _⟩, ⟨by (with_reducible repeat (first | apply Kd.N_alloc | apply Kd.N_drewN | apply Kd.N_drew)); exact HO_24.out⟩, ⟨by (with_reducible repeat (first | apply Kd.R_alloc | apply Kd.R_drewN | apply Kd.R_drew)); exact HO_23.out⟩, ⟨by repeat (first | (with_reducible first | exact HB.out | apply below_alloc | apply pw_below_drewN | apply below_drew1) | exact HB.out)⟩⟩
               case round =>
                clear H'
                try clear c1
                try clear c2
                try clear p2
                try clear c3
                try clear p3
                try clear q3
                try clear hx3
                try clear c4
                try clear c5
                try clear c6
                try clear p6
                try clear c7
                try clear c8
                try clear c9
                try clear c12
                try clear c13
                try clear c14
                try clear c16
                try clear c16b0
                try clear c16b1
                try clear c16b2
                try clear c18
                try clear c20
                try clear c21
                try clear c21b0
                try clear c21b1
                try clear c21b2
                try clear c26
                try clear c26b0
                try clear c26b1
                try clear p34
                try clear q34
                try clear hx34
                try clear c41
                try clear c43
                try clear c45
                try clear c45b0
                try clear c46
                try clear c46b0
                try clear c47
                try clear c47b0
                try clear c48
                try clear c48b0
                try clear c50
                try clear c50b0
                try clear c50b1
                try clear c52
                try clear c53
                try clear c53b0
                try clear c55
                try clear c57
                try clear p64
                try clear c75
                try clear c75b0
                try clear c75b1
                try clear c75b2
                try clear c79
                try clear c80
                try clear hx347_0
                try clear p2
                try clear p3
                try clear p34
                try clear p347
                try clear p6
                try clear p64
                try clear q3
                try clear q34
                try clear q347
                obtain ⟨x28_4, x164_4, rfl, rfl, HA, HK4, HO_24, HO_162, HB⟩ := hrel
                cases gk with
                | zero => exact absurd HA.out (by simp [laws_FnPartsOfTables.l1])
                | succ k4 =>
                 have H := HA.out
                 clear HA
                 simp only [laws_FnPartsOfTables.l1] at H
                 by_cases c81 : x164_4 < (t354.length : Int)
                 · rw [if_pos c81] at H
                   have c81b0 : decide (x164_4 < (t354.length : Int)) = true := decide_eq_true c81
                   clear c81
                   by_cases c82 : 0 ≤ x164_4
                   · rw [if_pos c82] at H
                     have c82b0 : decide (0 ≤ x164_4) = true := decide_eq_true c82
                     clear c82
                     by_cases c83 : x164_4 < (t354.length : Int)
                     · rw [if_pos c83] at H
                       have c83b0 : decide (x164_4 < (t354.length : Int)) = true := decide_eq_true c83
                       clear c83
                       have H' := Aside0.mk H
                       clear H
                       have p368 : 0 ≤ (x164_4 : Int) := of_decide_eq_true (by first | (with_reducible assumption) | assumption)
                       have q368 : x164_4 < (t354.length : Int) := of_decide_eq_true (by first | (with_reducible assumption) | assumption)
                       obtain ⟨ad368, e368, hx368_0⟩ := Kd.at_int (Kd.R_reads' HO_162.out).2.2 x164_4 p368 q368
                       cases e368
                       replace p368 := eq_true p368
                       replace q368 := eq_true q368
                       go_wp2
                       go_roundg k4
                       case measure => have := HJ9.out; have := HJ41.out; have := HJ68.out; have := HK4.out; omega
                       case rel => exact ⟨(wrap64 (x28_4 + (rd t354 x164_4))), (wrap64 (x164_4 + 1)), (by first | rfl | (simp; done) | (simp [*]; done)), (by first | rfl | (simp; done) | (simp [*]; done)), H', ⟨by have := HJ9.out; have := HJ41.out; have := HJ68.out; have := HK4.out; omega⟩, ⟨by (with_reducible repeat (first | apply Kd.N_alloc | apply Kd.N_drewN | apply Kd.N_drew)); exact HO_24.out⟩, ⟨by (with_reducible repeat (first | apply Kd.R_alloc | apply Kd.R_drewN | apply Kd.R_drew)); exact HO_162.out⟩, ⟨by repeat (first | (with_reducible first | exact HB.out | apply below_alloc | apply pw_below_drewN | apply below_drew1) | exact HB.out)⟩⟩
                     · rw [if_neg c83] at H
                       exact absurd H (by simp)
                   · rw [if_neg c82] at H
                     exact absurd H (by simp)
                 · rw [if_neg c81] at H
                   have c81b0 : decide (x164_4 < (t354.length : Int)) = false := decide_eq_false c81
                   clear c81
                   replace H := Option.bind_eq_some_iff.mp H
                   obtain ⟨⟨t369, t370⟩, A840, H⟩ := H
                   replace H : (if t370 = true then (some (t369 == x28_4)) else (some false)) = some r := H
                   have A84 := Aside0.mk A840
                   clear A840
                   by_cases c85 : t370 = true
                   · subst c85
                     have H1 : (some (t369 == x28_4)) = some r := by rw [if_pos rfl] at H; exact H
                     clear H
                     have H := H1
                     clear H1
                     obtain rfl := Option.some.inj H
                     obtain ⟨Ao86, co86, eo86⟩ := Kd.N_slice HO_24.out
                     subst eo86
                     go_wp2_with (first | ((with_reducible refine gate_callee (f := 8) rfl ?_); refine goesL_ (some 174) rfl rfl Try.func8 (by kernel_rfl) rfl #[.slice Ao86 t359.length co86] rfl (by (try simp only [List.map_toArray, List.map_cons, List.map_nil]); first | done | rfl | (simp only [List.length_drop, List.length_take]; rfl)) ?_; (with_reducible refine (impl_EqualSum.calls k4 _ _ t359 t369 true _ ?side1 ?side2 A84.out).mono ?_); (case side1 => repeat (first | exact (Kd.N_reads' HO_24.out).2.2 | (with_reducible refine Kd.C_alloc ?_ _) | (with_reducible refine Kd.C_drewN ?_ _) | (with_reducible refine Kd.C_drew ?_))); (case side2 => exact (Kd.N_reads' HO_24.out).2.1); rintro e w87 ⟨rfl, hb⟩; refine ⟨_, rfl, ?_⟩; have n0_ := Aside0.mk (Kd.N_below (by (with_reducible repeat (first | apply Kd.N_alloc | apply Kd.N_drewN | apply Kd.N_drew)); exact HO_24.out) hb); have n1_ := Aside0.mk (Kd.R_below (by (with_reducible repeat (first | apply Kd.R_alloc | apply Kd.R_drewN | apply Kd.R_drew)); exact HO_162.out) hb); have n2_ := Aside0.mk (below_step (by repeat (first | (with_reducible first | exact HB.out | apply below_alloc | apply pw_below_drewN | apply below_drew1) | exact HB.out)) hb); clear HO_24; clear HO_162; clear HB; have HO_24 := n0_; have HO_162 := n1_; have HB := n2_; clear n0_ n1_ n2_; (try clear hb); (try clear hb2); (try clear hk); (try clear hi)))
                     go_ret
                     exact ⟨by first | rfl | (simp [errW_none, errW_some] <;> rfl) | (simp [*, errW_none, errW_some] <;> rfl), by repeat (first | (with_reducible first | exact HB.out | apply below_alloc | apply pw_below_drewN | apply below_drew1) | exact HB.out)⟩
                   · replace c85 := Bool.eq_false_iff.mpr c85
                     subst c85
                     have H1 : (some false) = some r := by rw [if_neg (show ¬ (false = true) by decide)] at H; exact H
                     clear H
                     have H := H1
                     clear H1
                     obtain rfl := Option.some.inj H
                     obtain ⟨Ao88, co88, eo88⟩ := Kd.N_slice HO_24.out
                     subst eo88
                     go_wp2_with (first | ((with_reducible refine gate_callee (f := 8) rfl ?_); refine goesL_ (some 174) rfl rfl Try.func8 (by kernel_rfl) rfl #[.slice Ao88 t359.length co88] rfl (by (try simp only [List.map_toArray, List.map_cons, List.map_nil]); first | done | rfl | (simp only [List.length_drop, List.length_take]; rfl)) ?_; (with_reducible refine (impl_EqualSum.calls k4 _ _ t359 t369 false _ ?side1 ?side2 A84.out).mono ?_); (case side1 => repeat (first | exact (Kd.N_reads' HO_24.out).2.2 | (with_reducible refine Kd.C_alloc ?_ _) | (with_reducible refine Kd.C_drewN ?_ _) | (with_reducible refine Kd.C_drew ?_))); (case side2 => exact (Kd.N_reads' HO_24.out).2.1); rintro e w89 ⟨rfl, hb⟩; refine ⟨_, rfl, ?_⟩; have n0_ := Aside0.mk (Kd.N_below (by (with_reducible repeat (first | apply Kd.N_alloc | apply Kd.N_drewN | apply Kd.N_drew)); exact HO_24.out) hb); have n1_ := Aside0.mk (Kd.R_below (by (with_reducible repeat (first | apply Kd.R_alloc | apply Kd.R_drewN | apply Kd.R_drew)); exact HO_162.out) hb); have n2_ := Aside0.mk (below_step (by repeat (first | (with_reducible first | exact HB.out | apply below_alloc | apply pw_below_drewN | apply below_drew1) | exact HB.out)) hb); clear HO_24; clear HO_162; clear HB; have HO_24 := n0_; have HO_162 := n1_; have HB := n2_; clear n0_ n1_ n2_; (try clear hb); (try clear hb2); (try clear hk); (try clear hi)))
                     go_ret
                     exact ⟨by first | rfl | (simp [errW_none, errW_some] <;> rfl) | (simp [*, errW_none, errW_some] <;> rfl), by repeat (first | (with_reducible first | exact HB.out | apply below_alloc | apply pw_below_drewN | apply below_drew1) | exact HB.out)⟩
             · replace c80 := Bool.eq_false_iff.mpr c80
               subst c80
               have H1 : (some true) = some r := by rw [if_neg (show ¬ (false = true) by decide)] at H; exact H
               clear H
               have H := H1
               clear H1
               obtain rfl := Option.some.inj H
               go_wp2
               go_ret
               exact ⟨by first | rfl | (simp [errW_none, errW_some] <;> rfl) | (simp [*, errW_none, errW_some] <;> rfl), by repeat (first | (with_reducible first | exact HB.out | apply below_alloc | apply pw_below_drewN | apply below_drew1) | exact HB.out)⟩

/-- THE ONE PURE STATEMENT of laws_FnPartsOfTables: yours. -/
def laws_FnPartsOfTables.Pure : Prop := ∀ (l0 : List Int) (l1 : List Int), l0.length ≤ maxLen → l0.length * 1 ≤ 140737488351232 → (∀ x ∈ l0, (Lit.int .u8 x).wf = true) → l1.length ≤ maxLen → l1.length * 1 ≤ 140737488351232 → (∀ x ∈ l1, (Lit.int .u8 x).wf = true) → ∃ k, laws_FnPartsOfTables.f k l0 l1 = some true
theorem laws_FnPartsOfTables.walk (P : laws_FnPartsOfTables.Pure) (a0 : Option Addr) (len0 cap0 : Nat) (z0 : List Int) (a1 : Option Addr) (len1 cap1 : Nat) (z1 : List Int) (w : World) (w0 : (a0 = none ∧ len0 = 0 ∧ cap0 = 0 ∧ z0 = []) ∨ ∃ x, a0 = some x ∧ len0 ≤ cap0 ∧ cap0 ≤ maxLen ∧ z0.length = cap0 ∧ (∀ i, i < z0.length → w.cell? (x.add i) = some (.int .u8 (z0.getD i 0))) ∧ ∀ n ∈ z0, (Lit.int .u8 n).wf = true) (y0 : len0 * 1 ≤ 140737488351232) (w1 : (a1 = none ∧ len1 = 0 ∧ cap1 = 0 ∧ z1 = []) ∨ ∃ x, a1 = some x ∧ len1 ≤ cap1 ∧ cap1 ≤ maxLen ∧ z1.length = cap1 ∧ (∀ i, i < z1.length → w.cell? (x.add i) = some (.int .u8 (z1.getD i 0))) ∧ ∀ n ∈ z1, (Lit.int .u8 n).wf = true) (y1 : len1 * 1 ≤ 140737488351232) :
 Calls Try.prog 3 #[.slice a0 len0 cap0, .slice a1 len1 cap1] w fun e w' => e = .returned (.bool true) ∧ Below w.heap.size w w' := by
 obtain ⟨l0, rfl, hr0, hm0, hw0, hc0⟩ := ReadsInt.ofRowC w0
 obtain ⟨l1, rfl, hr1, hm1, hw1, hc1⟩ := ReadsInt.ofRowC w1
 obtain ⟨k, h⟩ := P l0 l1 hm0 y0 hw0 hm1 y1 hw1
 refine (laws_FnPartsOfTables.calls k _ _ l0 _ _ l1 true w (Kd.C_of_reads (d := (0 : Int)) (h1 := fun _ => rfl) hr0) hc0 (Kd.C_of_reads (d := (0 : Int)) (h1 := fun _ => rfl) hr1) hc1 h).mono ?_
 rintro e w' ⟨rfl, hd⟩
 exact ⟨rfl, hd⟩

end Go.Proofs.Ytgcgecbdmomceaa.A

namespace Go.Proofs.Ytgcgecbdmomceaa.A
open Go.RowKit Go.Proofs.YtgcgecbdmomceaaW.PrintWords Go.Proofs.YtgcgecbdmomceaaW.PrintLast Go.Proofs.YtgcgecbdmomceaaW.PrintMore
set_option linter.unusedVariables false
set_option linter.unusedSimpArgs false
theorem foldl_add : ∀ (l : List Int) (s : Int), l.foldl (fun s x => s + x) s = s + l.sum
 | [], s => by simp
 | x :: l, s => by
  rw [List.foldl_cons, foldl_add l, List.sum_cons]
  omega
end Go.Proofs.Ytgcgecbdmomceaa.A

namespace Go.Proofs.Ytgcgecbdmomceaa.A
open Go.RowKit Go.Proofs.YtgcgecbdmomceaaW.PrintWords Go.Proofs.YtgcgecbdmomceaaW.PrintLast Go.Proofs.YtgcgecbdmomceaaW.PrintMore
set_option linter.unusedVariables false
set_option linter.unusedSimpArgs false
end Go.Proofs.Ytgcgecbdmomceaa.A

namespace Go.Proofs.Ytgcgecbdmomceaa.A
open Go.RowKit Go.Proofs.YtgcgecbdmomceaaW.PrintWords Go.Proofs.YtgcgecbdmomceaaW.PrintLast Go.Proofs.YtgcgecbdmomceaaW.PrintMore
set_option linter.unusedVariables false
set_option linter.unusedSimpArgs false
def totSS (l : List (List Int)) : Nat := (l.map List.length).sum
end Go.Proofs.Ytgcgecbdmomceaa.A

namespace Go.Proofs.Ytgcgecbdmomceaa.A
open Go.RowKit Go.Proofs.YtgcgecbdmomceaaW.PrintWords Go.Proofs.YtgcgecbdmomceaaW.PrintLast Go.Proofs.YtgcgecbdmomceaaW.PrintMore
set_option linter.unusedVariables false
set_option linter.unusedSimpArgs false
theorem rd_L1n {xs : List (List Int)} {i : Nat} (h : i < xs.length) : rd_L2 xs (i : Int) = xs[i] := by
 unfold rd_L2
 rw [Int.toNat_natCast, List.getD_eq_getElem?_getD, List.getElem?_eq_getElem h]
 rfl
theorem len_tot {l : List (List Int)} {x : List Int} (h : x ∈ l) : x.length ≤ totSS l := by
 induction l with
 | nil => simp at h
 | cons y l ih =>
  simp only [totSS, List.map_cons, List.sum_cons] at *
  rcases List.mem_cons.1 h with rfl | h
  · omega
  · have := ih h
    omega
end Go.Proofs.Ytgcgecbdmomceaa.A

namespace Go.Proofs.Ytgcgecbdmomceaa.A
open Go.RowKit Go.Proofs.YtgcgecbdmomceaaW.PrintWords Go.Proofs.YtgcgecbdmomceaaW.PrintLast Go.Proofs.YtgcgecbdmomceaaW.PrintMore
set_option linter.unusedVariables false
set_option linter.unusedSimpArgs false
theorem doGood_l (l : List (List Int)) (hl : l.length ≤ 1048576) (hx : ∀ x ∈ l, x.length ≤ 1048576) : ∀ (n i : Nat), i + n = l.length → Ev (fun k => spec_doGood.l0 k l l (l.length : Int) (i : Int)) (((l.drop i).all (rowB l.length)) && decide ((1 : Int) ≤ l.length ∧ (l.length : Int) ≤ 6))
 | 0, i, h => by
  refine Ev.succ ?_
  simp only [spec_doGood.l0, if_neg (show ¬ (i : Int) < (l.length : Int) by omega), l1In_eq, Option.bind_some]
  rw [List.drop_eq_nil_of_le (by omega), List.all_nil, Bool.true_and]
  exact Ev.now _
 | n + 1, i, h => by
  have hi : i < l.length := by omega
  have hxi := hx _ (List.getElem_mem hi)
  refine Ev.succ ?_
  simp only [spec_doGood.l0, if_pos (show (i : Int) < (l.length : Int) by omega), if_pos (show (0 : Int) ≤ (i : Int) by omega), rd_L1n hi, wsucc hi (by omega)]
  rw [List.drop_eq_getElem_cons hi, List.all_cons]
  by_cases c : ((l[i]).length : Int) = (l.length : Int)
  · simp only [if_pos c]
    refine Ev.bind (l1All_ev l[i] 0 1000000 (by omega)) ?_
    have e : rowB l.length l[i] = inR 0 1000000 l[i] := by
     unfold rowB
     rw [decide_eq_true c, Bool.true_and]
    rw [e]
    cases inR 0 1000000 l[i] with
    | true =>
     simp only [if_true, Bool.true_and]
     exact doGood_l l hl hx n (i + 1) (by omega)
    | false =>
     simp only [Bool.false_eq_true, if_false, Bool.false_and]
     exact Ev.now _
  · have e : rowB l.length l[i] = false := by
     unfold rowB
     rw [decide_eq_false c, Bool.false_and]
    simp only [if_neg c, e, Bool.false_and]
    exact Ev.now _
theorem doGood_ev (l : List (List Int)) (hl : l.length ≤ 1048576) (ht : totSS l ≤ 1048576) : Ev (fun k => spec_doGood.f k l) (squareB l) := by
 have h := doGood_l l hl (fun x h => Nat.le_trans (len_tot h) ht) l.length 0 (by omega)
 rw [List.drop_zero, Bool.and_comm] at h
 exact h
theorem implIsSquare_eq (l : List (List Int)) (hl : l.length ≤ 1048576) (ht : totSS l ≤ 1048576) : impl_IsSquare.f l = some (squareB l) := by
 unfold impl_IsSquare.f
 rw [if_pos ⟨List.all_eq_true.2 fun x h => decide_eq_true (Nat.le_trans (len_tot h) ht), hl⟩]
end Go.Proofs.Ytgcgecbdmomceaa.A

namespace Go.Proofs.Ytgcgecbdmomceaa.A
open Go.RowKit Go.Proofs.YtgcgecbdmomceaaW.PrintWords Go.Proofs.YtgcgecbdmomceaaW.PrintLast Go.Proofs.YtgcgecbdmomceaaW.PrintMore
set_option linter.unusedVariables false
set_option linter.unusedSimpArgs false
def Bg (l : List Int) : Prop := l.length ≤ 1000 ∧ ∀ x ∈ l, 0 ≤ x ∧ x ≤ 1000000
theorem liSumB_ev (l : List Int) (h : Bg l) : Ev (fun k => spec_liSum.f k l) l.sum := by
 unfold spec_liSum.f
 have hl := h.1
 have h := ev_fold (xs := l) (g := fun k s i => spec_liSum.l0 k s l (l.length : Int) i) (fun s x => s + x) (fun s i => 0 ≤ s ∧ s ≤ 1000000 * (i : Int)) id
  (fun s _ => Ev.succ (by simp only [spec_liSum.l0, if_neg (Int.lt_irrefl _)]; exact Ev.now _))
  (fun i hi s r hs _ hr => Ev.succ (by
   have hb := h.2 _ (List.getElem_mem hi)
   simp only [spec_liSum.l0, if_pos (show (i : Int) < (l.length : Int) by omega), if_pos (show (0 : Int) ≤ (i : Int) by omega), rdn hi, wsucc hi (by omega), w64 (x := s + l[i]) (by omega) (by omega)]
   exact hr))
  (fun i hi s hs => by
   have hb := h.2 _ (List.getElem_mem hi)
   omega) l.length 0 0 (by omega) (by omega)
 rw [List.drop_zero, foldl_add, Int.zero_add] at h
 exact h
theorem totalB_ev (l : List Int) (h : Bg l) : Ev (fun k => impl_total.f k l) l.sum := by
 unfold impl_total.f
 have hl := h.1
 have h := ev_fold (xs := l) (g := fun k s i => impl_total.l0 k s l (l.length : Int) i) (fun s x => s + x) (fun s i => 0 ≤ s ∧ s ≤ 1000000 * (i : Int)) id
  (fun s _ => Ev.succ (by simp only [impl_total.l0, if_neg (Int.lt_irrefl _)]; exact Ev.now _))
  (fun i hi s r hs _ hr => Ev.succ (by
   have hb := h.2 _ (List.getElem_mem hi)
   simp only [impl_total.l0, if_pos (show (i : Int) < (l.length : Int) by omega), if_pos (show (0 : Int) ≤ (i : Int) by omega), rdn hi, wsucc hi (by omega), w64 (x := s + l[i]) (by omega) (by omega)]
   exact hr))
  (fun i hi s hs => by
   have hb := h.2 _ (List.getElem_mem hi)
   omega) l.length 0 0 (by omega) (by omega)
 rw [List.drop_zero, foldl_add, Int.zero_add] at h
 exact h
def okI (l : List (List Int)) (s : Int) (i : Nat) : Bool := decide ((l.getD i []).sum = s) && decide (((l.map fun x => rd x (i : Int)).sum) = s)
theorem colP_step {l : List (List Int)} {i j : Nat} (hj : j < l.length) : ((l.take (j + 1)).map fun x => rd x (i : Int)).sum = ((l.take j).map fun x => rd x (i : Int)).sum + rd l[j] (i : Int) := by
 rw [List.take_succ_eq_append_getElem hj, List.map_append, List.sum_append]
 simp
structure Tab (l : List (List Int)) : Prop where
 len : l.length ≤ 6
 row : ∀ x ∈ l, x.length = l.length ∧ ∀ y ∈ x, 0 ≤ y ∧ y ≤ 1000000
theorem tab_bg {l : List (List Int)} (h : Tab l) {x : List Int} (hx : x ∈ l) : Bg x := ⟨by have := (h.row x hx).1; have := h.len; omega, (h.row x hx).2⟩
theorem tab_rd {l : List (List Int)} (h : Tab l) {x : List Int} (hx : x ∈ l) {i : Nat} (hi : i < l.length) : 0 ≤ rd x (i : Int) ∧ rd x (i : Int) ≤ 1000000 := by
 have h1 := (h.row x hx).1
 rw [rdn (show i < x.length by omega)]
 exact (h.row x hx).2 _ (List.getElem_mem (by omega))
theorem colP_bd {l : List (List Int)} (h : Tab l) {i : Nat} (hi : i < l.length) : ∀ j : Nat, j ≤ l.length → 0 ≤ ((l.take j).map fun x => rd x (i : Int)).sum ∧ ((l.take j).map fun x => rd x (i : Int)).sum ≤ 1000000 * j
 | 0, _ => by simp
 | j + 1, hj => by
  have ih := colP_bd h hi j (by omega)
  have hb := tab_rd h (List.getElem_mem (show j < l.length by omega)) hi
  rw [colP_step (by omega)]
  omega
theorem specSum_l1 {l : List (List Int)} (h : Tab l) (s : Int) (i : Nat) (hi : i < l.length) (x : List Int) {r : Int} (hr : Ev (fun k => (spec_liSum.f k x).bind fun t => if t = s then (if (l.map fun x => rd x (i : Int)).sum = s then spec_doSum.l0 k l s l (l.length : Int) (wrap64 ((i : Int) + 1)) else some (-1 : Int)) else some (-1 : Int)) r) : ∀ (n j : Nat), j + n = l.length → Ev (fun k => spec_doSum.l1 k l s (i : Int) x (((l.take j).map fun x => rd x (i : Int)).sum) l (l.length : Int) (i : Int) l (l.length : Int) (j : Int)) r
 | 0, j, e => by
  refine Ev.succ ?_
  simp only [spec_doSum.l1, if_neg (show ¬ (j : Int) < (l.length : Int) by omega)]
  rw [List.take_of_length_le (by omega)]
  exact hr
 | n + 1, j, e => by
  have hj : j < l.length := by omega
  have hlen := (h.row _ (List.getElem_mem hj)).1
  have b1 := colP_bd h hi j (by omega)
  have b2 := tab_rd h (List.getElem_mem hj) hi
  have b3 := h.len
  refine Ev.succ ?_
  simp only [spec_doSum.l1, if_pos (show (j : Int) < (l.length : Int) by omega), if_pos (show (0 : Int) ≤ (j : Int) by omega), if_pos (show (0 : Int) ≤ (i : Int) by omega), rd_L1n hj, if_pos (show (i : Int) < ((l[j]).length : Int) by omega), wsucc hj (by omega), w64 (x := ((l.take j).map fun x => rd x (i : Int)).sum + rd l[j] (i : Int)) (by omega) (by omega)]
  rw [← colP_step hj]
  exact specSum_l1 h s i hi x hr n (j + 1) (by omega)
theorem specSum_l0 {l : List (List Int)} (h : Tab l) (s : Int) : ∀ (n i : Nat), i + n = l.length → Ev (fun k => spec_doSum.l0 k l s l (l.length : Int) (i : Int)) (if (List.range' i n).all (okI l s) = true then s else (-1 : Int))
 | 0, i, e => by
  refine Ev.succ ?_
  simp only [spec_doSum.l0, if_neg (show ¬ (i : Int) < (l.length : Int) by omega), List.range'_zero, List.all_nil, if_true]
  exact Ev.now _
 | n + 1, i, e => by
  have hi : i < l.length := by omega
  refine Ev.succ ?_
  simp only [spec_doSum.l0, if_pos (show (i : Int) < (l.length : Int) by omega), if_pos (show (0 : Int) ≤ (i : Int) by omega), rd_L1n hi]
  have key := specSum_l1 h s i hi l[i] (r := if (List.range' i (n + 1)).all (okI l s) = true then s else (-1 : Int)) ?_ l.length 0 (by omega)
  · simp only [List.take_zero, List.map_nil, List.sum_nil] at key
    exact key
  · have ho : okI l s i = (decide ((l[i]).sum = s) && decide (((l.map fun x => rd x (i : Int)).sum) = s)) := by
     unfold okI
     rw [List.getD_eq_getElem?_getD, List.getElem?_eq_getElem hi]
     rfl
    refine Ev.bind (liSumB_ev l[i] (tab_bg h (List.getElem_mem hi))) ?_
    rw [List.range'_succ, List.all_cons, ho]
    by_cases c1 : (l[i]).sum = s
    · simp only [if_pos c1]
      by_cases c2 : (l.map fun x => rd x (i : Int)).sum = s
      · simp only [if_pos c2, wsucc hi (by have := h.len; omega), decide_eq_true c1, decide_eq_true c2, Bool.true_and]
        exact specSum_l0 h s n (i + 1) (by omega)
      · simp only [if_neg c2, decide_eq_false c2, Bool.and_false, Bool.false_and, Bool.false_eq_true, if_false]
        exact Ev.now _
    · simp only [if_neg c1, decide_eq_false c1, Bool.false_and, Bool.false_eq_true, if_false]
      exact Ev.now _
theorem implSum_l1 {l : List (List Int)} (h : Tab l) (s : Int) (i : Nat) (hi : i < l.length) (x : List Int) {r : Int × Bool} (hr : Ev (fun k => (impl_total.f k x).bind fun t => if t = s then (if (l.map fun x => rd x (i : Int)).sum = s then impl_equalSum.l0 k l s l (l.length : Int) (wrap64 ((i : Int) + 1)) else some ((0 : Int), false)) else some ((0 : Int), false)) r) : ∀ (n j : Nat), j + n = l.length → Ev (fun k => impl_equalSum.l1 k l s (i : Int) x (((l.take j).map fun x => rd x (i : Int)).sum) l (l.length : Int) (i : Int) l (l.length : Int) (j : Int)) r
 | 0, j, e => by
  refine Ev.succ ?_
  simp only [impl_equalSum.l1, if_neg (show ¬ (j : Int) < (l.length : Int) by omega)]
  rw [List.take_of_length_le (by omega)]
  exact hr
 | n + 1, j, e => by
  have hj : j < l.length := by omega
  have hlen := (h.row _ (List.getElem_mem hj)).1
  have b1 := colP_bd h hi j (by omega)
  have b2 := tab_rd h (List.getElem_mem hj) hi
  have b3 := h.len
  refine Ev.succ ?_
  simp only [impl_equalSum.l1, if_pos (show (j : Int) < (l.length : Int) by omega), if_pos (show (0 : Int) ≤ (j : Int) by omega), if_pos (show (0 : Int) ≤ (i : Int) by omega), rd_L1n hj, if_pos (show (i : Int) < ((l[j]).length : Int) by omega), wsucc hj (by omega), w64 (x := ((l.take j).map fun x => rd x (i : Int)).sum + rd l[j] (i : Int)) (by omega) (by omega)]
  rw [← colP_step hj]
  exact implSum_l1 h s i hi x hr n (j + 1) (by omega)
theorem implSum_l0 {l : List (List Int)} (h : Tab l) (s : Int) : ∀ (n i : Nat), i + n = l.length → Ev (fun k => impl_equalSum.l0 k l s l (l.length : Int) (i : Int)) (if (List.range' i n).all (okI l s) = true then (s, true) else ((0 : Int), false))
 | 0, i, e => by
  refine Ev.succ ?_
  simp only [impl_equalSum.l0, if_neg (show ¬ (i : Int) < (l.length : Int) by omega), List.range'_zero, List.all_nil, if_true]
  exact Ev.now _
 | n + 1, i, e => by
  have hi : i < l.length := by omega
  refine Ev.succ ?_
  simp only [impl_equalSum.l0, if_pos (show (i : Int) < (l.length : Int) by omega), if_pos (show (0 : Int) ≤ (i : Int) by omega), rd_L1n hi]
  have key := implSum_l1 h s i hi l[i] (r := if (List.range' i (n + 1)).all (okI l s) = true then (s, true) else ((0 : Int), false)) ?_ l.length 0 (by omega)
  · simp only [List.take_zero, List.map_nil, List.sum_nil] at key
    exact key
  · have ho : okI l s i = (decide ((l[i]).sum = s) && decide (((l.map fun x => rd x (i : Int)).sum) = s)) := by
     unfold okI
     rw [List.getD_eq_getElem?_getD, List.getElem?_eq_getElem hi]
     rfl
    refine Ev.bind (totalB_ev l[i] (tab_bg h (List.getElem_mem hi))) ?_
    rw [List.range'_succ, List.all_cons, ho]
    by_cases c1 : (l[i]).sum = s
    · simp only [if_pos c1]
      by_cases c2 : (l.map fun x => rd x (i : Int)).sum = s
      · simp only [if_pos c2, wsucc hi (by have := h.len; omega), decide_eq_true c1, decide_eq_true c2, Bool.true_and]
        exact implSum_l0 h s n (i + 1) (by omega)
      · simp only [if_neg c2, decide_eq_false c2, Bool.and_false, Bool.false_and, Bool.false_eq_true, if_false]
        exact Ev.now _
    · simp only [if_neg c1, decide_eq_false c1, Bool.false_and, Bool.false_eq_true, if_false]
      exact Ev.now _
theorem square_tab {l : List (List Int)} (h : squareB l = true) : Tab l ∧ 1 ≤ l.length := by
 unfold squareB at h
 rw [Bool.and_eq_true, decide_eq_true_eq, List.all_eq_true] at h
 refine ⟨⟨by omega, fun x hx => ?_⟩, by omega⟩
 have hr := h.2 x hx
 unfold rowB inR at hr
 rw [Bool.and_eq_true, decide_eq_true_eq, List.all_eq_true] at hr
 exact ⟨by omega, fun y hy => by simpa using hr.2 y hy⟩
def sum0 (l : List (List Int)) : Int := (l.getD 0 []).sum
def equalR (l : List (List Int)) : Int × Bool := if squareB l = true then (if (List.range' 0 l.length).all (okI l (sum0 l)) = true then (sum0 l, true) else (0, false)) else (0, false)
theorem sum0_at {l : List (List Int)} (h : 0 < l.length) : sum0 l = (l[0]).sum := by
 unfold sum0
 rw [List.getD_eq_getElem?_getD, List.getElem?_eq_getElem h]
 rfl
theorem specEqualSum_ev (l : List (List Int)) (hl : l.length ≤ 1048576) (ht : totSS l ≤ 1048576) : Ev (fun k => spec_EqualSum.f k l) (equalR l) := by
 unfold spec_EqualSum.f equalR
 refine Ev.bind (doGood_ev l hl ht) (Ev.ite (fun hq => ?_) (fun _ => Ev.now _))
 obtain ⟨hT, h1⟩ := square_tab hq
 have hs : 0 ≤ sum0 l := by
  rw [sum0_at (by omega)]
  have := (tab_bg hT (List.getElem_mem (show 0 < l.length by omega))).2
  generalize l[0] = x at this
  clear hq ht hl h1 hT
  induction x with
  | nil => simp
  | cons y x ih =>
   have := ih (fun z hz => this z (List.mem_cons_of_mem _ hz))
   have := (‹∀ z ∈ y :: x, 0 ≤ z ∧ z ≤ 1000000› y List.mem_cons_self)
   rw [List.sum_cons]
   omega
 have hd : Ev (fun k => spec_doSum.f k l) (if (List.range' 0 l.length).all (okI l (sum0 l)) = true then sum0 l else -1) := by
  unfold spec_doSum.f
  simp only [if_pos (show (0 : Int) < (l.length : Int) by omega)]
  have e : rd_L2 l 0 = l[0] := rd_L1n (i := 0) (by omega)
  rw [e]
  refine Ev.bind (liSumB_ev l[0] (tab_bg hT (List.getElem_mem (by omega)))) ?_
  rw [← sum0_at (by omega)]
  exact specSum_l0 hT (sum0 l) l.length 0 (by omega)
 refine Ev.bind hd ?_
 by_cases c : (List.range' 0 l.length).all (okI l (sum0 l)) = true
 · simp only [if_pos c] at hd ⊢
   simp only [if_neg (show ¬ sum0 l < 0 by omega)]
   exact Ev.bind hd (Ev.now _)
 · simp only [if_neg c, if_pos (show (-1 : Int) < 0 by decide)]
   exact Ev.now _
theorem implEqualSum_ev (l : List (List Int)) (hl : l.length ≤ 1048576) (ht : totSS l ≤ 1048576) : Ev (fun k => impl_EqualSum.f k l) (equalR l) := by
 unfold impl_EqualSum.f equalR
 simp only [implIsSquare_eq l hl ht, Option.bind_some]
 refine Ev.ite (fun hq => ?_) (fun _ => Ev.now _)
 obtain ⟨hT, h1⟩ := square_tab hq
 have hd : Ev (fun k => impl_equalSum.f k l) (if (List.range' 0 l.length).all (okI l (sum0 l)) = true then (sum0 l, true) else (0, false)) := by
  unfold impl_equalSum.f
  simp only [if_pos (show (0 : Int) < (l.length : Int) by omega)]
  have e : rd_L2 l 0 = l[0] := rd_L1n (i := 0) (by omega)
  rw [e]
  refine Ev.bind (totalB_ev l[0] (tab_bg hT (List.getElem_mem (by omega)))) ?_
  rw [← sum0_at (by omega)]
  exact implSum_l0 hT (sum0 l) l.length 0 (by omega)
 exact Ev.bind hd (Ev.now _)
end Go.Proofs.Ytgcgecbdmomceaa.A

namespace Go.Proofs.Ytgcgecbdmomceaa.A
open Go.RowKit Go.Proofs.YtgcgecbdmomceaaW.PrintWords Go.Proofs.YtgcgecbdmomceaaW.PrintLast Go.Proofs.YtgcgecbdmomceaaW.PrintMore
set_option linter.unusedVariables false
set_option linter.unusedSimpArgs false
/-! tables told by a function of row and column -/
def tabG (n : Nat) (G : Nat → Nat → Int) : List (List Int) := (List.range n).map fun i => (List.range n).map fun j => G i j
theorem tabG_length (n : Nat) (G : Nat → Nat → Int) : (tabG n G).length = n := by simp [tabG]
theorem tabG_get {n : Nat} {G : Nat → Nat → Int} {i : Nat} (h : i < (tabG n G).length) : (tabG n G)[i] = (List.range n).map fun j => G i j := by simp [tabG]
theorem tabG_row {n : Nat} (G : Nat → Nat → Int) {i : Nat} (h : i < n) : rd_L2 (tabG n G) (i : Int) = (List.range n).map fun j => G i j := by
 rw [rd_L1n (by rw [tabG_length]; exact h), tabG_get]
theorem tabG_rowlen {n : Nat} (G : Nat → Nat → Int) {i : Nat} (h : i < n) : (rd_L2 (tabG n G) (i : Int)).length = n := by rw [tabG_row G h]; simp
theorem rowG_at {n : Nat} (g : Nat → Int) {j : Nat} (h : j < n) : rd ((List.range n).map g) (j : Int) = g j := by
 rw [rdn (by simpa using h)]
 simp
theorem tabG_at {n : Nat} (G : Nat → Nat → Int) {i j : Nat} (h : i < n) (h' : j < n) : rd (rd_L2 (tabG n G) (i : Int)) (j : Int) = G i j := by rw [tabG_row G h, rowG_at _ h']
theorem tabG_congr {n : Nat} {G G' : Nat → Nat → Int} (h : ∀ i j, i < n → j < n → G i j = G' i j) : tabG n G = tabG n G' := by
 unfold tabG
 refine List.map_congr_left fun i hi => List.map_congr_left fun j hj => h i j (List.mem_range.1 hi) (List.mem_range.1 hj)
def updG (G : Nat → Nat → Int) (i j : Nat) (v : Int) : Nat → Nat → Int := fun a b => if a = i ∧ b = j then v else G a b
theorem rowG_set {n : Nat} (g : Nat → Int) (j : Nat) (v : Int) : ((List.range n).map g).set j v = (List.range n).map fun b => if b = j then v else g b := by
 apply List.ext_getElem
 · simp
 · intro k h1 h2
   simp only [List.length_map, List.length_range, List.length_set] at h1 h2
   rw [List.getElem_set]
   by_cases e : j = k
   · subst e
     simp
   · have e' : ¬ k = j := fun h => e h.symm
     simp [e, e']
theorem tabG_set {n : Nat} (G : Nat → Nat → Int) {i : Nat} (j : Nat) (v : Int) (h : i < n) : (tabG n G).set i ((rd_L2 (tabG n G) (i : Int)).set j v) = tabG n (updG G i j v) := by
 rw [tabG_row G h, rowG_set]
 apply List.ext_getElem
 · simp [tabG]
 · intro k h1 h2
   rw [List.length_set, tabG_length] at h1
   rw [List.getElem_set, tabG_get, tabG_get]
   by_cases e : i = k
   · subst e
     rw [if_pos rfl]
     refine List.map_congr_left fun b _ => ?_
     unfold updG
     by_cases e2 : b = j <;> simp [e2]
   · rw [if_neg e]
     refine List.map_congr_left fun b _ => ?_
     unfold updG
     rw [if_neg (fun h => e h.1.symm)]
theorem tabG_zero (n : Nat) : List.replicate n (List.replicate n (0 : Int)) = tabG n (fun _ _ => 0) := by
 unfold tabG
 apply List.ext_getElem
 · simp
 · intro k h1 h2
   simp only [List.getElem_replicate, List.getElem_map]
   apply List.ext_getElem
   · simp
   · intro k h1 h2
     simp
def atG (l : List (List Int)) (i j : Nat) : Int := rd (rd_L2 l (i : Int)) (j : Int)
theorem tabG_self {l : List (List Int)} (h : ∀ x ∈ l, x.length = l.length) : tabG l.length (atG l) = l := by
 apply List.ext_getElem
 · rw [tabG_length]
 · intro i h1 h2
   rw [tabG_get]
   have hl := h _ (List.getElem_mem h2)
   apply List.ext_getElem
   · simp [hl]
   · intro j h3 h4
     simp only [List.getElem_map, List.getElem_range]
     unfold atG
     rw [rd_L1n h2, rdn h4]
theorem atG_tab {n : Nat} (G : Nat → Nat → Int) {i j : Nat} (h : i < n) (h' : j < n) : atG (tabG n G) i j = G i j := tabG_at G h h'
theorem tabG_tot (n : Nat) (G : Nat → Nat → Int) : totSS (tabG n G) = n * n := by
 unfold totSS tabG
 rw [List.map_map]
 have : ∀ m : Nat, ((List.range m).map (List.length ∘ fun i => (List.range n).map fun j => G i j)).sum = m * n := by
  intro m
  induction m with
  | zero => simp
  | succ m ih => rw [List.range_succ, List.map_append, List.sum_append, ih]; simp [Nat.succ_mul]
 exact this n
end Go.Proofs.Ytgcgecbdmomceaa.A

namespace Go.Proofs.Ytgcgecbdmomceaa.A
open Go.RowKit Go.Proofs.YtgcgecbdmomceaaW.PrintWords Go.Proofs.YtgcgecbdmomceaaW.PrintLast Go.Proofs.YtgcgecbdmomceaaW.PrintMore
set_option linter.unusedVariables false
set_option linter.unusedSimpArgs false
/-! a table that is told if it is a square one -/
def checkR (u : List (List Int)) : List (List Int) × Bool := if squareB u = true then (u, true) else ([], false)
theorem checkR_bd (u : List (List Int)) : totSS (checkR u).1 ≤ 1000 ∧ (checkR u).1.length ≤ 1000 := by
 unfold checkR
 split
 · next h =>
   obtain ⟨hT, _⟩ := square_tab h
   have hl := hT.len
   have e := tabG_tot u.length (atG u)
   rw [tabG_self (fun x hx => (hT.row x hx).1)] at e
   have := Nat.mul_le_mul hl hl
   show totSS u ≤ 1000 ∧ u.length ≤ 1000
   omega
 · simp [totSS]
theorem checked_eq (u : List (List Int)) (hl : u.length ≤ 1048576) (ht : totSS u ≤ 1048576) : impl_checked.f u = some (checkR u) := by
 unfold impl_checked.f checkR
 rw [implIsSquare_eq u hl ht, Option.bind_some]
 split <;> rfl
theorem checkedG_eq (n : Nat) (hn : n ≤ 6) (G : Nat → Nat → Int) : impl_checked.f (tabG n G) = some (checkR (tabG n G)) := by
 have := Nat.mul_le_mul hn hn
 exact checked_eq _ (by rw [tabG_length]; omega) (by rw [tabG_tot]; omega)
theorem doIf_ev (u : List (List Int)) (hl : u.length ≤ 1048576) (ht : totSS u ≤ 1048576) : Ev (fun k => spec_doIf.f k u) (checkR u) := by
 unfold spec_doIf.f checkR
 exact Ev.bind (doGood_ev u hl ht) (Ev.ite (fun _ => Ev.now _) (fun _ => Ev.now _))
theorem doIfG_ev (n : Nat) (hn : n ≤ 6) (G : Nat → Nat → Int) : Ev (fun k => spec_doIf.f k (tabG n G)) (checkR (tabG n G)) := by
 have := Nat.mul_le_mul hn hn
 exact doIf_ev _ (by rw [tabG_length]; omega) (by rw [tabG_tot]; omega)
theorem atG_bd {l : List (List Int)} (h : Tab l) {i j : Nat} (hi : i < l.length) (hj : j < l.length) : 0 ≤ atG l i j ∧ atG l i j ≤ 1000000 := by
 unfold atG
 rw [rd_L1n hi]
 exact tab_rd h (List.getElem_mem hi) hj
theorem tab_rowlen {l : List (List Int)} (h : Tab l) {i : Nat} (hi : i < l.length) : (rd_L2 l (i : Int)).length = l.length := by
 rw [rd_L1n hi]
 exact (h.row _ (List.getElem_mem hi)).1
end Go.Proofs.Ytgcgecbdmomceaa.A

namespace Go.Proofs.Ytgcgecbdmomceaa.A
open Go.RowKit Go.Proofs.YtgcgecbdmomceaaW.PrintWords Go.Proofs.YtgcgecbdmomceaaW.PrintLast Go.Proofs.YtgcgecbdmomceaaW.PrintMore
set_option linter.unusedVariables false
set_option linter.unusedSimpArgs false
end Go.Proofs.Ytgcgecbdmomceaa.A

namespace Go.Proofs.Ytgcgecbdmomceaa.A
open Go.RowKit Go.Proofs.YtgcgecbdmomceaaW.PrintWords Go.Proofs.YtgcgecbdmomceaaW.PrintLast Go.Proofs.YtgcgecbdmomceaaW.PrintMore
set_option linter.unusedVariables false
set_option linter.unusedSimpArgs false
theorem rd_mem {l : List Int} {i : Int} (h0 : 0 ≤ i) (h1 : i < l.length) : rd l i ∈ l := by
 have hi : i.toNat < l.length := by omega
 have e : rd l i = l[i.toNat] := rdi h0 h1
 rw [e]
 exact List.getElem_mem hi
end Go.Proofs.Ytgcgecbdmomceaa.A

namespace Go.Proofs.Ytgcgecbdmomceaa.A
open Go.RowKit Go.Proofs.YtgcgecbdmomceaaW.PrintWords Go.Proofs.YtgcgecbdmomceaaW.PrintLast Go.Proofs.YtgcgecbdmomceaaW.PrintMore
set_option linter.unusedVariables false
set_option linter.unusedSimpArgs false
/-! what the draws give: small numbers and short lists -/
theorem tmod_bd (x n : Int) (h0 : 0 ≤ x) (hn : 0 < n) : 0 ≤ Int.tmod x n ∧ Int.tmod x n < n := by
 rw [Int.tmod_eq_emod_of_nonneg h0]
 exact ⟨Int.emod_nonneg _ (by omega), Int.emod_lt_of_pos _ hn⟩
theorem and255 (z : Int) : 0 ≤ Go.bits .and .u64 (IntKind.u64.wrap z / 1099511627776) 255 ∧ Go.bits .and .u64 (IntKind.u64.wrap z / 1099511627776) 255 ≤ 255 := by
 have e := IntKind.wrap_u64 z
 have h := bits_mask .u64 64 (by decide) wraps_u64 8 (by decide) (IntKind.u64.wrap z / 1099511627776) (by omega) (by omega)
 have h' : Go.bits .and .u64 (IntKind.u64.wrap z / 1099511627776) 255 = IntKind.u64.wrap z / 1099511627776 % 256 := by simpa using h
 rw [h']
 omega
def Bytes (l : List Int) : Prop := l.length ≤ 1048576 ∧ ∀ x ∈ l, 0 ≤ x ∧ x ≤ 255
theorem next_ev (l : List Int) (hl : Bytes l) (a s : Int) (h0 : 0 ≤ a) (h1 : a ≤ 1000000000) : ∃ x s', spec_l1Cur_next.f l a s = some (x, a + 1, s') ∧ 0 ≤ x ∧ x ≤ 255 := by
 have hb := hl.1
 unfold spec_l1Cur_next.f
 rw [w64 (x := a + 1) (by omega) (by omega)]
 by_cases c : a < (l.length : Int)
 · simp only [if_pos c, if_pos h0]
   have hx := hl.2 _ (rd_mem h0 c)
   by_cases c2 : a + 1 ≤ (l.length : Int)
   · simp only [if_pos c2]
     refine ⟨_, _, rfl, ?_⟩
     rw [w64 (by omega) (by omega)]
     exact hx
   · omega
 · simp only [if_neg c]
   by_cases c2 : a + 1 ≤ (l.length : Int)
   · omega
   · simp only [if_neg c2]
     refine ⟨_, _, rfl, ?_⟩
     have := and255 (IntKind.u64.wrap (IntKind.u64.wrap (s * 6364136223846793005) + 0) + 1442695040888963407)
     rw [w64 (by omega) (by omega)]
     exact this
theorem pick_ev (l : List Int) (hl : Bytes l) (a s n : Int) (h0 : 0 ≤ a) (h1 : a ≤ 900000000) : ∃ x a' s', spec_l1Cur_pick.f l a s n = some (x, a', s') ∧ 0 ≤ x ∧ (x = 0 ∨ x < n) ∧ a ≤ a' ∧ a' ≤ a + 2 := by
 unfold spec_l1Cur_pick.f
 by_cases c : n ≤ 1
 · simp only [if_pos c]
   exact ⟨_, _, _, rfl, by omega, by omega, by omega, by omega⟩
 · simp only [if_neg c]
   obtain ⟨x, s1, e1, b1, b2⟩ := next_ev l hl a s h0 (by omega)
   simp only [e1, Option.bind_some]
   by_cases c2 : n > 200
   · simp only [if_pos c2]
     obtain ⟨y, s2, e2, b3, b4⟩ := next_ev l hl (a + 1) s1 (by omega) (by omega)
     simp only [e2, Option.bind_some, if_neg (show ¬ n = 0 by omega)]
     have t := tmod_bd (x * 256 + y) n (by omega) (by omega)
     refine ⟨_, _, _, rfl, ?_⟩
     rw [w64 (x := x * 256) (by omega) (by omega), w64 (x := x * 256 + y) (by omega) (by omega)]
     omega
   · simp only [if_neg c2, if_neg (show ¬ n = 0 by omega)]
     have t := tmod_bd x n (by omega) (by omega)
     exact ⟨_, _, _, rfl, by omega, by omega, by omega, by omega⟩
theorem one_ev (l : List Int) (hl : Bytes l) (a s n : Int) (h0 : 0 ≤ a) (h1 : a ≤ 900000000) : ∃ x a' s', spec_l1Cur_one.f l a s n = some (x, a', s') ∧ a ≤ a' ∧ a' ≤ a + 2 := by
 unfold spec_l1Cur_one.f
 obtain ⟨x, a', s', e, _, _, b1, b2⟩ := pick_ev l hl a s n h0 h1
 simp only [e, Option.bind_some]
 exact ⟨_, _, _, rfl, b1, b2⟩
theorem among_ev (l : List Int) (hl : Bytes l) (a s : Int) (L : List Int) (hL : 0 < L.length) (h0 : 0 ≤ a) (h1 : a ≤ 900000000) : ∃ x a' s', spec_l1Cur_among.f l a s L = some (x, a', s') ∧ x ∈ L ∧ a ≤ a' ∧ a' ≤ a + 2 := by
 unfold spec_l1Cur_among.f
 obtain ⟨x, a', s', e, b0, b, b1, b2⟩ := pick_ev l hl a s (L.length : Int) h0 h1
 simp only [e, Option.bind_some, if_pos b0, if_pos (show x < (L.length : Int) by omega)]
 exact ⟨_, _, _, rfl, rd_mem b0 (by omega), b1, b2⟩
/-- Short lists of small numbers. -/
structure Bd (n m : Int) (l : List Int) : Prop where
 len : (l.length : Int) ≤ n
 low : ∀ x ∈ l, -1 ≤ x
 high : ∀ x ∈ l, x ≤ m
theorem Bd.nil (n m : Int) (h : 0 ≤ n) : Bd n m [] := ⟨by simpa using h, fun x hx => by simp at hx, fun x hx => by simp at hx⟩
end Go.Proofs.Ytgcgecbdmomceaa.A

namespace Go.Proofs.Ytgcgecbdmomceaa.A
open Go.RowKit Go.Proofs.YtgcgecbdmomceaaW.PrintWords Go.Proofs.YtgcgecbdmomceaaW.PrintLast Go.Proofs.YtgcgecbdmomceaaW.PrintMore
set_option linter.unusedVariables false
set_option linter.unusedSimpArgs false
end Go.Proofs.Ytgcgecbdmomceaa.A

namespace Go.Proofs.Ytgcgecbdmomceaa.A
open Go.RowKit Go.Proofs.YtgcgecbdmomceaaW.PrintWords Go.Proofs.YtgcgecbdmomceaaW.PrintLast Go.Proofs.YtgcgecbdmomceaaW.PrintMore
set_option linter.unusedVariables false
set_option linter.unusedSimpArgs false
theorem tot_le {l : List (List Int)} {B : Nat} (h : ∀ x ∈ l, x.length ≤ B) : totSS l ≤ B * l.length := by
 induction l with
 | nil => simp [totSS]
 | cons x l ih =>
  have := ih (fun y hy => h y (List.mem_cons_of_mem _ hy))
  have := h x List.mem_cons_self
  simp only [totSS, List.map_cons, List.sum_cons, List.length_cons, Nat.mul_succ] at *
  omega
end Go.Proofs.Ytgcgecbdmomceaa.A

namespace Go.Proofs.Ytgcgecbdmomceaa.A
open Go.RowKit Go.Proofs.YtgcgecbdmomceaaW.PrintWords Go.Proofs.YtgcgecbdmomceaaW.PrintLast Go.Proofs.YtgcgecbdmomceaaW.PrintMore
set_option linter.unusedVariables false
set_option linter.unusedSimpArgs false
theorem doEmpty_l (n : Nat) (hn : n ≤ 1000) : ∀ (m i : Nat), i + m = n → Ev (fun k => spec_doEmpty.l0 k (n : Int) (List.replicate i (List.replicate n 0)) (i : Int)) (tabG n fun _ _ => 0)
 | 0, i, e => by
  have ei : i = n := by omega
  subst ei
  refine Ev.succ ?_
  simp only [spec_doEmpty.l0, if_neg (show ¬ (i : Int) < (i : Int) by omega)]
  rw [tabG_zero]
  exact Ev.now _
 | m + 1, i, e => by
  refine Ev.succ ?_
  have hi : i < n := by omega
  simp only [spec_doEmpty.l0, if_pos (show (i : Int) < (n : Int) by omega), if_pos (show (0 : Int) ≤ (n : Int) by omega), Int.toNat_natCast, if_pos (show n ≤ 35184372088832 by omega), List.length_replicate, if_pos (show i < 5864062014805 by omega), wsucc hi (by omega)]
  have := doEmpty_l n hn m (i + 1) (by omega)
  rw [List.replicate_succ'] at this
  exact this
theorem doEmpty_ev (n : Nat) (hn : n ≤ 1000) : Ev (fun k => spec_doEmpty.f k (n : Int)) (tabG n fun _ _ => 0) := by
 unfold spec_doEmpty.f
 exact doEmpty_l n hn n 0 (by omega)
end Go.Proofs.Ytgcgecbdmomceaa.A

namespace Go.Proofs.Ytgcgecbdmomceaa.A
open Go.RowKit Go.Proofs.YtgcgecbdmomceaaW.PrintWords Go.Proofs.YtgcgecbdmomceaaW.PrintLast Go.Proofs.YtgcgecbdmomceaaW.PrintMore
set_option linter.unusedVariables false
set_option linter.unusedSimpArgs false
theorem placeB_len {l0 : List Int} (h : placeB l0 = true) : 1 ≤ l0.length ∧ l0.length ≤ 6 ∧ l0.Nodup ∧ ∀ x ∈ l0, 0 ≤ x ∧ x < (l0.length : Int) := by
 unfold placeB at h
 split at h
 · next h1 =>
   split at h
   · next h2 =>
     unfold inR at h
     simp only [List.all_eq_true, decide_eq_true_eq] at h
     exact ⟨by omega, by omega, h2, fun x hx => by have := h x hx; omega⟩
   · cases h
 · cases h
end Go.Proofs.Ytgcgecbdmomceaa.A

namespace Go.Proofs.Ytgcgecbdmomceaa.A
open Go.RowKit Go.Proofs.YtgcgecbdmomceaaW.PrintWords Go.Proofs.YtgcgecbdmomceaaW.PrintLast Go.Proofs.YtgcgecbdmomceaaW.PrintMore
set_option linter.unusedVariables false
set_option linter.unusedSimpArgs false
/-! draws of tables -/
structure Sq (n : Nat) (T : List (List Int)) : Prop where
 len : T.length = n
 row : ∀ i, i < n → (rd_L2 T (i : Int)).length = n
theorem Sq.set {n : Nat} {T : List (List Int)} (h : Sq n T) {i : Nat} (hi : i < n) {r : List Int} (hr : r.length = n) : Sq n (T.set i r) := by
 refine ⟨by rw [List.length_set, h.len], fun j hj => ?_⟩
 have hl := h.len
 rw [rd_L1n (show j < (T.set i r).length by rw [List.length_set]; omega), List.getElem_set]
 by_cases e : i = j
 · rw [if_pos e]
   exact hr
 · rw [if_neg e, ← rd_L1n (show j < T.length by omega)]
   exact h.row j hj
theorem Sq.zero (n : Nat) : Sq n (tabG n fun _ _ => 0) := ⟨tabG_length _ _, fun i hi => tabG_rowlen _ hi⟩
theorem placing_dl (l : List Int) (hl : Bytes l) (n : Nat) (hn : n ≤ 10) : ∀ (d i : Nat) (acc : List Int) (a s : Int), i + d = n → acc.length = i → 0 ≤ a → a ≤ 700000000 + 10 * (i : Int) → ∃ r a' s', Ev (fun k => spec_l1Cur_placing.l0 k (n : Int) acc (i : Int) l a s) (r, a', s') ∧ r.length = n ∧ a ≤ a' ∧ a' ≤ a + 2 * (d : Int) + 6
 | 0, i, acc, a, s, hi, hacc, h0, h1 => by
  have e : acc.length = n := by omega
  have J : ∀ a s, Ev (fun k => spec_l1Cur_placing.j1 k (n : Int) acc false l a s) (acc, a, s) := fun a s => Ev.succ (by simp only [spec_l1Cur_placing.j1, Bool.false_eq_true, if_false]; exact Ev.now _)
  by_cases c : (acc.length : Int) > 0
  · obtain ⟨t, a1, s1, e1, b0, b1⟩ := one_ev l hl a s 25 h0 (by omega)
    cases t with
    | false =>
     refine ⟨acc, a1, s1, Ev.succ ?_, e, by omega, by omega⟩
     simp only [spec_l1Cur_placing.l0, if_neg (show ¬ (i : Int) < (n : Int) by omega), if_pos c, e1, Option.bind_some]
     exact J _ _
    | true =>
     obtain ⟨x, a2, s2, e2, x0, x1, c0, c1⟩ := pick_ev l hl a1 s1 (acc.length : Int) (by omega) (by omega)
     obtain ⟨y, a3, s3, e3, y0, d0, d1⟩ := among_ev l hl a2 s2 ([(-1), 0, (n : Int), 4611686018427387904] : List Int) (by simp) (by omega) (by omega)
     refine ⟨acc.set x.toNat y, a3, s3, Ev.succ ?_, by rw [List.length_set]; exact e, by omega, by omega⟩
     simp only [spec_l1Cur_placing.l0, if_neg (show ¬ (i : Int) < (n : Int) by omega), if_pos c, e1, Option.bind_some]
     refine Ev.succ ?_
     simp only [spec_l1Cur_placing.j1, if_true, e2, e3, Option.bind_some, if_pos x0, if_pos (show x < (acc.length : Int) by omega)]
     exact Ev.now _
  · refine ⟨acc, a, s, Ev.succ ?_, e, by omega, by omega⟩
    simp only [spec_l1Cur_placing.l0, if_neg (show ¬ (i : Int) < (n : Int) by omega), if_neg c]
    exact J _ _
 | d + 1, i, acc, a, s, hi, hacc, h0, h1 => by
  obtain ⟨x, a1, s1, e1, x0, x1, b0, b1⟩ := pick_ev l hl a s (wrap64 ((i : Int) + 1)) h0 (by omega)
  have hw : wrap64 ((i : Int) + 1) = ((i + 1 : Nat) : Int) := by rw [w64 (by omega) (by omega)]; omega
  rw [hw] at e1 x1
  have hx : x ≤ (acc.length : Int) := by omega
  have hlt : (acc.take x.toNat).length = x.toNat := by rw [List.length_take]; omega
  have hld : (acc.drop x.toNat).length = acc.length - x.toNat := List.length_drop
  obtain ⟨r, a', s', er, hr, q1, q2⟩ := placing_dl l hl n hn d (i + 1) ((([] : List Int) ++ acc.take x.toNat ++ [(i : Int)]) ++ acc.drop x.toNat) a1 s1 (by omega) (by simp only [List.nil_append, List.length_append, List.length_singleton, hlt, hld]; omega) (by omega) (by omega)
  refine ⟨r, a', s', Ev.succ ?_, hr, by omega, by omega⟩
  simp only [spec_l1Cur_placing.l0, if_pos (show (i : Int) < (n : Int) by omega), hw, e1, Option.bind_some, if_pos x0, if_pos hx, List.length_nil, List.length_append, List.nil_append, List.length_singleton, hlt, hld, if_pos (show 0 + x.toNat < 17592186044416 by omega), if_pos (show x.toNat < 17592186044416 by omega), if_pos (show 0 + x.toNat + 1 + (acc.length - x.toNat) < 17592186044416 by omega), if_pos (show x.toNat + 1 + (acc.length - x.toNat) < 17592186044416 by omega)]
  simp only [List.nil_append] at er
  exact er
theorem placing_dev (l : List Int) (hl : Bytes l) (n : Nat) (hn : n ≤ 10) (a s : Int) (h0 : 0 ≤ a) (h1 : a ≤ 700000000) : ∃ r a' s', Ev (fun k => spec_l1Cur_placing.f k l a s (n : Int)) (r, a', s') ∧ r.length = n ∧ a ≤ a' ∧ a' ≤ a + 30 := by
 obtain ⟨r, a', s', e, h, q1, q2⟩ := placing_dl l hl n hn n 0 [] a s (by omega) rfl h0 (by omega)
 exact ⟨r, a', s', e, h, q1, by omega⟩
theorem equal_dl1 (l : List Int) (n : Nat) (hn : n ≤ 10) (p : List Int) (hp : p.length = n) (hb : ∀ x ∈ p, 0 ≤ x ∧ x < (n : Int)) (x6 x8 a s : Int) (Q : List (List Int) × Int × Int → Prop) (hr : ∀ T, Sq n T → ∃ r, Ev (fun k => spec_l1Cur_equal.l0 k (n : Int) T (wrap64 (x6 - 1)) l a s) r ∧ Q r) : ∀ (d i : Nat) (T : List (List Int)), i + d = n → Sq n T → ∃ r, Ev (fun k => spec_l1Cur_equal.l1 k (n : Int) T x6 x8 p (n : Int) (i : Int) l a s) r ∧ Q r
 | 0, i, T, hi, hT => by
  obtain ⟨r, e, q⟩ := hr T hT
  refine ⟨r, Ev.succ ?_, q⟩
  simp only [spec_l1Cur_equal.l1, if_neg (show ¬ (i : Int) < (n : Int) by omega)]
  exact e
 | d + 1, i, T, hi, hT => by
  have hip : i < p.length := by omega
  have hl := hT.len
  have hrow := hT.row i (by omega)
  have hx := hb _ (List.getElem_mem hip)
  obtain ⟨r, e, q⟩ := equal_dl1 l n hn p hp hb x6 x8 a s Q hr d (i + 1) (T.set i ((rd_L2 T (i : Int)).set (p[i]).toNat (wrap64 (rd (rd_L2 T (i : Int)) p[i] + x8)))) (by omega) (hT.set (by omega) (by rw [List.length_set, hrow]))
  refine ⟨r, Ev.succ ?_, q⟩
  simp only [spec_l1Cur_equal.l1, if_pos (show (i : Int) < (n : Int) by omega), if_pos (Int.natCast_nonneg i), if_pos (show (i : Int) < (p.length : Int) by omega), if_pos (show (i : Int) < (T.length : Int) by omega), rdn hip, if_pos hx.1, if_pos (show p[i] < ((rd_L2 T (i : Int)).length : Int) by omega), Int.toNat_natCast, wsucc (show i < n by omega) (by omega)]
  exact e
theorem equal_dl (l : List Int) (hl : Bytes l) (n : Nat) (hn : n ≤ 10) : ∀ (c : Nat) (T : List (List Int)) (a s : Int), (c : Int) ≤ 5 → Sq n T → 0 ≤ a → a ≤ 600000000 + 40 * (5 - (c : Int)) → ∃ r, Ev (fun k => spec_l1Cur_equal.l0 k (n : Int) T (c : Int) l a s) r ∧ (Sq n r.1 ∧ a ≤ r.2.1 ∧ r.2.1 ≤ a + 40 * (c : Int))
 | 0, T, a, s, hc, hT, h0, h1 => by
  refine ⟨(T, a, s), Ev.succ ?_, hT, Int.le_refl _, by simp⟩
  simp only [spec_l1Cur_equal.l0, if_neg (show ¬ ((0 : Nat) : Int) > 0 by omega)]
  exact Ev.now _
 | c + 1, T, a, s, hc, hT, h0, h1 => by
  obtain ⟨p, a1, s1, e1, hp, b0, b1⟩ := placing_dev l hl n hn a s h0 (by omega)
  have hw : wrap64 (((c + 1 : Nat) : Int) - 1) = (c : Int) := by rw [w64 (by omega) (by omega)]; omega
  by_cases g : placeB p = true
  · obtain ⟨x, a2, s2, e2, x0, x1, c0, c1⟩ := pick_ev l hl a1 s1 3 (by omega) (by omega)
    have hb := (placeB_len g).2.2.2
    rw [hp] at hb
    obtain ⟨r, er, q⟩ := equal_dl1 l n hn p hp hb ((c + 1 : Nat) : Int) (wrap64 (1 + x)) a2 s2 (fun r => Sq n r.1 ∧ a ≤ r.2.1 ∧ r.2.1 ≤ a + 40 * ((c + 1 : Nat) : Int)) (fun T hT => by
     obtain ⟨r, er, q1, q2, q3⟩ := equal_dl l hl n hn c T a2 s2 (by omega) hT (by omega) (by omega)
     rw [hw]
     exact ⟨r, er, q1, by omega, by omega⟩) n 0 T (by omega) hT
    refine ⟨r, Ev.succ ?_, q⟩
    simp only [spec_l1Cur_equal.l0, if_pos (show ((c + 1 : Nat) : Int) > 0 by omega)]
    refine Ev.bind e1 (Ev.bind (doPlacing_ev p) ?_)
    simp only [g, if_true, e2, Option.bind_some, hp]
    exact er
  · obtain ⟨r, er, q1, q2, q3⟩ := equal_dl l hl n hn c T a1 s1 (by omega) hT (by omega) (by omega)
    refine ⟨r, Ev.succ ?_, q1, by omega, by omega⟩
    simp only [spec_l1Cur_equal.l0, if_pos (show ((c + 1 : Nat) : Int) > 0 by omega)]
    refine Ev.bind e1 (Ev.bind (doPlacing_ev p) ?_)
    simp only [if_neg g, hw]
    exact er
theorem equal_dev (l : List Int) (hl : Bytes l) (n : Nat) (hn : n ≤ 10) (a s : Int) (h0 : 0 ≤ a) (h1 : a ≤ 600000000) : ∃ T a' s', Ev (fun k => spec_l1Cur_equal.f k l a s (n : Int)) (T, a', s') ∧ Sq n T ∧ a ≤ a' ∧ a' ≤ a + 300 := by
 obtain ⟨x, a1, s1, e1, x0, x1, b0, b1⟩ := pick_ev l hl a s 5 h0 (by omega)
 obtain ⟨c, rfl⟩ : ∃ c : Nat, x = (c : Int) := ⟨x.toNat, by omega⟩
 have hc : (c : Int) ≤ 5 := by omega
 obtain ⟨r, er, q1, q2, q3⟩ := equal_dl l hl n hn c (tabG n fun _ _ => 0) a1 s1 hc (Sq.zero n) (by omega) (by omega)
 refine ⟨r.1, r.2.1, r.2.2, ?_, q1, by omega, by omega⟩
 unfold spec_l1Cur_equal.f
 refine Ev.bind (doEmpty_ev n (by omega)) ?_
 simp only [e1, Option.bind_some]
 exact er
/-- A drawn table: few short rows. -/
def Few (T : List (List Int)) : Prop := T.length ≤ 11 ∧ ∀ x ∈ T, x.length ≤ 10
theorem Sq.few {n : Nat} {T : List (List Int)} (h : Sq n T) (hn : n ≤ 10) : Few T := by
 refine ⟨by rw [h.len]; omega, fun x hx => ?_⟩
 obtain ⟨i, hi, rfl⟩ := List.mem_iff_getElem.1 hx
 have := h.row i (by rw [← h.len]; exact hi)
 rw [rd_L1n hi] at this
 omega
theorem Few.tot {T : List (List Int)} (h : Few T) : T.length ≤ 1048576 ∧ totSS T ≤ 1048576 := by
 have := tot_le h.2
 have h1 := h.1
 have h2 : 10 * T.length ≤ 10 * 11 := Nat.mul_le_mul_left _ h1
 omega
theorem few_set {T : List (List Int)} (h : Few T) (i : Nat) {r : List Int} (hr : r.length ≤ 10) : Few (T.set i r) := by
 refine ⟨by rw [List.length_set]; exact h.1, fun x hx => ?_⟩
 rcases List.mem_or_eq_of_mem_set hx with k | k
 · exact h.2 x k
 · rw [k]
   exact hr
theorem squareD_j2 (l : List Int) (hl : Bytes l) (n : Nat) (h1n : 1 ≤ n) (hn : n ≤ 10) (T : List (List Int)) (hT : Sq n T) (a s : Int) (h0 : 0 ≤ a) (h1 : a ≤ 800000000) : ∃ r, Ev (fun k => spec_l1Cur_square.j2 k (n : Int) T l a s) r ∧ (Few r.1 ∧ a ≤ r.2.1 ∧ r.2.1 ≤ a + 20) := by
 have hlen := hT.len
 obtain ⟨x, a1, s1, e1, x0, x1, b0, b1⟩ := pick_ev l hl a s 16 h0 (by omega)
 by_cases c0 : x = 0
 · obtain ⟨i, a2, s2, e2, i0, i1, p0, p1⟩ := pick_ev l hl a1 s1 (n : Int) (by omega) (by omega)
   obtain ⟨j, a3, s3, e3, j0, j1, q0, q1⟩ := pick_ev l hl a2 s2 (n : Int) (by omega) (by omega)
   obtain ⟨v, a4, s4, e4, v0, r0, r1⟩ := among_ev l hl a3 s3 ([(-1), 0, 1000000, 1000001, 4611686018427387904] : List Int) (by decide) (by omega) (by omega)
   obtain ⟨i', rfl⟩ : ∃ i' : Nat, i = (i' : Int) := ⟨i.toNat, by omega⟩
   have hi : i' < n := by omega
   have hrow := hT.row i' hi
   refine ⟨(T.set ((i' : Int)).toNat ((rd_L2 T ((i' : Int))).set j.toNat v), a4, s4), Ev.succ ?_, few_set (hT.few hn) _ (by rw [List.length_set, hrow]; exact hn), by show a ≤ a4; omega, by show a4 ≤ a + 20; omega⟩
   simp only [spec_l1Cur_square.j2, e1, Option.bind_some, if_pos c0, e2, e3, e4, if_pos i0, if_pos (show (i' : Int) < (T.length : Int) by omega), if_pos j0, if_pos (show j < ((rd_L2 T ((i' : Int))).length : Int) by rw [hrow]; omega)]
   exact Ev.now _
 · by_cases c1 : x = 1
   · refine ⟨(T ++ [List.replicate (n : Int).toNat 0], a1, s1), Ev.succ ?_, ⟨by rw [List.length_append, List.length_singleton]; omega, fun y hy => ?_⟩, by show a ≤ a1; omega, by show a1 ≤ a + 20; omega⟩
     · simp only [spec_l1Cur_square.j2, e1, Option.bind_some, if_neg c0, if_pos c1, if_pos (Int.natCast_nonneg n), if_pos (show (n : Int).toNat ≤ 35184372088832 by omega), if_pos (show T.length < 5864062014805 by omega)]
       exact Ev.now _
     · rcases List.mem_append.1 hy with k | k
       · exact (hT.few hn).2 y k
       · rw [List.mem_singleton.1 k, List.length_replicate]
         omega
   · by_cases c2 : x = 2
     · have hrow := hT.row 0 (by omega)
       have e0 : rd_L2 T 0 = rd_L2 T ((0 : Nat) : Int) := rfl
       refine ⟨(T.set 0 ((rd_L2 T 0).drop 1), a1, s1), Ev.succ ?_, few_set (hT.few hn) _ (by rw [List.length_drop, e0, hrow]; omega), by show a ≤ a1; omega, by show a1 ≤ a + 20; omega⟩
       simp only [spec_l1Cur_square.j2, e1, Option.bind_some, if_neg c0, if_neg c1, if_pos c2, if_pos (show 0 < (T.length : Int) by omega), if_pos (show 1 ≤ ((rd_L2 T 0).length : Int) by rw [e0, hrow]; omega)]
       exact Ev.now _
     · by_cases c3 : x = 3
       · refine ⟨([], a1, s1), Ev.succ ?_, ⟨by simp, by simp⟩, by show a ≤ a1; omega, by show a1 ≤ a + 20; omega⟩
         simp only [spec_l1Cur_square.j2, e1, Option.bind_some, if_neg c0, if_neg c1, if_neg c2, if_pos c3]
         exact Ev.now _
       · refine ⟨(T, a1, s1), Ev.succ ?_, hT.few hn, by show a ≤ a1; omega, by show a1 ≤ a + 20; omega⟩
         simp only [spec_l1Cur_square.j2, e1, Option.bind_some, if_neg c0, if_neg c1, if_neg c2, if_neg c3]
         exact Ev.now _
theorem squareD_l1 (l : List Int) (hl : Bytes l) (n : Nat) (h1n : 1 ≤ n) (hn : n ≤ 10) (i : Nat) (hi : i < n) (Q : List (List Int) × Int × Int → Prop) (a0 : Int) (hr : ∀ T a s, Sq n T → a0 ≤ a → a ≤ a0 + 10 * (n : Int) → ∃ r, Ev (fun k => spec_l1Cur_square.l0 k (n : Int) T (n : Int) (wrap64 ((i : Int) + 1)) l a s) r ∧ Q r) (h0 : 0 ≤ a0) (h1 : a0 ≤ 700000000) : ∀ (d j : Nat) (T : List (List Int)) (a s : Int), j + d = n → Sq n T → a0 ≤ a → a ≤ a0 + 10 * (j : Int) → ∃ r, Ev (fun k => spec_l1Cur_square.l1 k (n : Int) T (i : Int) (n : Int) (i : Int) (n : Int) (j : Int) l a s) r ∧ Q r
 | 0, j, T, a, s, hj, hT, g0, g1 => by
  obtain ⟨r, e, q⟩ := hr T a s hT g0 (by omega)
  refine ⟨r, Ev.succ ?_, q⟩
  simp only [spec_l1Cur_square.l1, if_neg (show ¬ (j : Int) < (n : Int) by omega)]
  exact e
 | d + 1, j, T, a, s, hj, hT, g0, g1 => by
  have hlen := hT.len
  have hrow := hT.row i hi
  obtain ⟨x, a1, s1, e1, x0, x1, b0, b1⟩ := pick_ev l hl a s 9 (by omega) (by omega)
  obtain ⟨v, a2, s2, e2, v0, c0, c1⟩ := among_ev l hl a1 s1 ([0, 0, 1, 2, x] : List Int) (by simp) (by omega) (by omega)
  obtain ⟨r, e, q⟩ := squareD_l1 l hl n h1n hn i hi Q a0 hr h0 h1 d (j + 1) (T.set i ((rd_L2 T (i : Int)).set j v)) a2 s2 (by omega) (hT.set hi (by rw [List.length_set, hrow])) (by omega) (by omega)
  refine ⟨r, Ev.succ ?_, q⟩
  simp only [spec_l1Cur_square.l1, if_pos (show (j : Int) < (n : Int) by omega), e1, e2, Option.bind_some, if_pos (Int.natCast_nonneg i), if_pos (show (i : Int) < (T.length : Int) by omega), if_pos (Int.natCast_nonneg j), if_pos (show (j : Int) < ((rd_L2 T (i : Int)).length : Int) by omega), Int.toNat_natCast, wsucc (show j < n by omega) (by omega)]
  exact e
theorem squareD_l0 (l : List Int) (hl : Bytes l) (n : Nat) (h1n : 1 ≤ n) (hn : n ≤ 10) (a0 : Int) (h0 : 0 ≤ a0) (h1 : a0 ≤ 600000000) : ∀ (d i : Nat) (T : List (List Int)) (a s : Int), i + d = n → Sq n T → a0 ≤ a → a ≤ a0 + 100 * (i : Int) → ∃ r, Ev (fun k => spec_l1Cur_square.l0 k (n : Int) T (n : Int) (i : Int) l a s) r ∧ (Few r.1 ∧ a0 ≤ r.2.1 ∧ r.2.1 ≤ a0 + 2000)
 | 0, i, T, a, s, hi, hT, g0, g1 => by
  obtain ⟨r, e, q1, q2, q3⟩ := squareD_j2 l hl n h1n hn T hT a s (by omega) (by omega)
  refine ⟨r, Ev.succ ?_, q1, by omega, by omega⟩
  simp only [spec_l1Cur_square.l0, if_neg (show ¬ (i : Int) < (n : Int) by omega)]
  exact e
 | d + 1, i, T, a, s, hi, hT, g0, g1 => by
  have hlen := hT.len
  obtain ⟨r, e, q⟩ := squareD_l1 l hl n h1n hn i (by omega) (fun r => Few r.1 ∧ a0 ≤ r.2.1 ∧ r.2.1 ≤ a0 + 2000) a (fun T a' s' hT' k0 k1 => by
   rw [wsucc (show i < n by omega) (by omega)]
   exact squareD_l0 l hl n h1n hn a0 h0 h1 d (i + 1) T a' s' (by omega) hT' (by omega) (by omega)) (by omega) (by omega) n 0 T a s (by omega) hT (Int.le_refl _) (by omega)
  refine ⟨r, Ev.succ ?_, q⟩
  simp only [spec_l1Cur_square.l0, if_pos (show (i : Int) < (n : Int) by omega), hlen]
  exact e
theorem side_mem {x : Int} (h : x ∈ ([1, 2, 3, 3, 3, 4, 4, 6] : List Int)) : 1 ≤ x ∧ x ≤ 6 := by
 simp only [List.mem_cons, List.not_mem_nil, or_false] at h
 omega
theorem square_dev (l : List Int) (hl : Bytes l) (a s : Int) (h0 : 0 ≤ a) (h1 : a ≤ 500000000) : ∃ T a' s', Ev (fun k => spec_l1Cur_square.f k l a s) (T, a', s') ∧ Few T ∧ a ≤ a' ∧ a' ≤ a + 3000 := by
 obtain ⟨x, a1, s1, e1, hx, b0, b1⟩ := among_ev l hl a s ([1, 2, 3, 3, 3, 4, 4, 6] : List Int) (by decide) h0 (by omega)
 have hx := side_mem hx
 obtain ⟨n, rfl⟩ : ∃ n : Nat, x = (n : Int) := ⟨x.toNat, by omega⟩
 obtain ⟨T, a2, s2, e2, hT, c0, c1⟩ := equal_dev l hl n (by omega) a1 s1 (by omega) (by omega)
 obtain ⟨t, a3, s3, e3, d0, d1⟩ := one_ev l hl a2 s2 3 (by omega) (by omega)
 have hlen := hT.len
 have hside : spec_l1Cur_side.f l a s = some ((n : Int), a1, s1) := by
  unfold spec_l1Cur_side.f
  simp only [e1, Option.bind_some]
 have key : ∃ r : List (List Int) × Int × Int, Ev (fun k => if t = true then spec_l1Cur_square.l0 k (n : Int) T (T.length : Int) 0 l a3 s3 else spec_l1Cur_square.j2 k (n : Int) T l a3 s3) r ∧ (Few r.1 ∧ a3 ≤ r.2.1 ∧ r.2.1 ≤ a3 + 2000) := by
  cases t with
  | true =>
   obtain ⟨r, e, q⟩ := squareD_l0 l hl n (by omega) (by omega) a3 (by omega) (by omega) n 0 T a3 s3 (by omega) hT (Int.le_refl _) (by omega)
   refine ⟨r, ?_, q⟩
   simp only [if_true, hlen]
   exact e
  | false =>
   obtain ⟨r, e, q1, q2, q3⟩ := squareD_j2 l hl n (by omega) (by omega) T hT a3 s3 (by omega) (by omega)
   refine ⟨r, ?_, q1, q2, by omega⟩
   simp only [Bool.false_eq_true, if_false]
   exact e
 obtain ⟨r, e, q1, q2, q3⟩ := key
 refine ⟨r.1, r.2.1, r.2.2, ?_, q1, by omega, by omega⟩
 unfold spec_l1Cur_square.f
 simp only [hside, Option.bind_some]
 refine Ev.bind e2 ?_
 simp only [e3, Option.bind_some]
 exact e
end Go.Proofs.Ytgcgecbdmomceaa.A

namespace Go.Proofs.Ytgcgecbdmomceaa.A
open Go.RowKit Go.Proofs.YtgcgecbdmomceaaW.PrintWords Go.Proofs.YtgcgecbdmomceaaW.PrintLast Go.Proofs.YtgcgecbdmomceaaW.PrintMore
set_option linter.unusedVariables false
set_option linter.unusedSimpArgs false
/-! draws of tables: PartsOf, FromParts -/
theorem drawParts_ev (l : List Int) (hl : Bytes l) : ∃ T, Ev (fun k => spec_DrawPartsOf.f k l) T ∧ Few T := by
 obtain ⟨T, a1, s1, e1, hT, b0, b1⟩ := square_dev l hl 0 0 (by omega) (by omega)
 refine ⟨T, ?_, hT⟩
 unfold spec_DrawPartsOf.f spec_DrawIsSquare.f
 exact Ev.bind (Ev.bind e1 (Ev.now _)) (Ev.now _)
/-- Some lists of at most ten numbers. -/
def Lots (P : List (List Int)) (C : List Int) : Prop := P.length ≤ 50 ∧ C.length ≤ 50 ∧ ∀ x ∈ P, x.length ≤ 10
theorem drawFrom_j1 (l : List Int) (hl : Bytes l) (n : Nat) (h1n : 1 ≤ n) (hn : n ≤ 6) (P : List (List Int)) (hP : P.length ≤ 45) (hx : ∀ x ∈ P, x.length ≤ 10) (C : List Int) (a s : Int) (hC : C.length ≤ 46) (h0 : 0 ≤ a) (h1 : a ≤ 200000) : ∃ r, Ev (fun k => spec_DrawFromParts.j1 k (n : Int) P C l a s) r ∧ Lots r.1 r.2 := by
 have hlots : Lots P C := ⟨by omega, by omega, hx⟩
 obtain ⟨t, a1, s1, e1, b0, b1⟩ := one_ev l hl a s 12 h0 (by omega)
 cases t with
 | false =>
  refine ⟨(P, C), Ev.succ ?_, hlots⟩
  simp only [spec_DrawFromParts.j1, e1, Option.bind_some, Bool.false_eq_true, if_false]
  exact Ev.now _
 | true =>
  by_cases c : (P.length : Int) > 0
  · obtain ⟨r, a2, s2, e2, hr, _, _⟩ := placing_dev l hl (n - 1) (by omega) a1 s1 (by omega) (by omega)
    have hw : wrap64 ((n : Int) - 1) = ((n - 1 : Nat) : Int) := by rw [w64 (by omega) (by omega)]; omega
    refine ⟨(P.set (0 : Int).toNat r, C), Ev.succ ?_, by rw [List.length_set]; omega, by show C.length ≤ 50; omega, fun x hx2 => ?_⟩
    · simp only [spec_DrawFromParts.j1, e1, Option.bind_some, if_true, if_pos c, hw]
      refine Ev.bind e2 ?_
      simp only [if_pos (show (0 : Int) < (P.length : Int) by omega)]
      exact Ev.now _
    · rcases List.mem_or_eq_of_mem_set hx2 with h | h
      · exact hx x h
      · rw [h]; omega
  · refine ⟨(P, C), Ev.succ ?_, hlots⟩
    simp only [spec_DrawFromParts.j1, e1, Option.bind_some, if_true, if_neg c]
    exact Ev.now _
theorem drawFrom_end (l : List Int) (hl : Bytes l) (n : Nat) (h1n : 1 ≤ n) (hn : n ≤ 6) (P : List (List Int)) (hP : P.length ≤ 45) (hx : ∀ x ∈ P, x.length ≤ 10) (C : List Int) (a s : Int) (hC : C.length ≤ 45) (h0 : 0 ≤ a) (h1 : a ≤ 100000) : ∃ r, Ev (fun k => spec_DrawFromParts.l0 k (n : Int) P C 0 l a s) r ∧ Lots r.1 r.2 := by
 obtain ⟨t, a1, s1, e1, b0, b1⟩ := one_ev l hl a s 12 h0 (by omega)
 cases t with
 | false =>
  obtain ⟨r, e, q⟩ := drawFrom_j1 l hl n h1n hn P hP hx C a1 s1 (by omega) (by omega) (by omega)
  refine ⟨r, Ev.succ ?_, q⟩
  simp only [spec_DrawFromParts.l0, if_neg (show ¬ (0 : Int) > 0 by omega), e1, Option.bind_some, Bool.false_eq_true, if_false]
  exact e
 | true =>
  obtain ⟨r, e, q⟩ := drawFrom_j1 l hl n h1n hn P hP hx (C ++ [1]) a1 s1 (by rw [List.length_append, List.length_singleton]; omega) (by omega) (by omega)
  refine ⟨r, Ev.succ ?_, q⟩
  simp only [spec_DrawFromParts.l0, if_neg (show ¬ (0 : Int) > 0 by omega), e1, Option.bind_some, if_true, if_pos (show C.length < 17592186044416 by omega)]
  exact e
theorem drawFrom_step (l : List Int) (hl : Bytes l) (n : Nat) (h1n : 1 ≤ n) (hn : n ≤ 6) (x8 : Int) (h8 : 0 < x8) (h9 : x8 ≤ 100) (P : List (List Int)) (C : List Int) (a s : Int) (hP : P.length ≤ 45) (hC : C.length ≤ 45) (hx : ∀ x ∈ P, x.length ≤ 10) (h0 : 0 ≤ a) (h1 : a ≤ 100000) (hr : ∀ (p : List Int) (c a2 s2 : Int), p.length = n → a ≤ a2 → a2 ≤ a + 100 → ∃ r, Ev (fun k => spec_DrawFromParts.l0 k (n : Int) (P ++ [p]) (C ++ [c]) (x8 - 1) l a2 s2) r ∧ Lots r.1 r.2) : ∃ r, Ev (fun k => spec_DrawFromParts.l0 k (n : Int) P C x8 l a s) r ∧ Lots r.1 r.2 := by
 obtain ⟨p, a1, s1, e1, hp, b0, b1⟩ := placing_dev l hl n (by omega) a s h0 (by omega)
 obtain ⟨c, a2, s2, e2, _, c0, c1⟩ := among_ev l hl a1 s1 ([0, 1, 2, 3, 100, 1000000] : List Int) (by decide) (by omega) (by omega)
 obtain ⟨r, e, q⟩ := hr p c a2 s2 hp (by omega) (by omega)
 refine ⟨r, Ev.succ ?_, q⟩
 simp only [spec_DrawFromParts.l0, if_pos (show x8 > 0 by omega), w64 (x := x8 - 1) (by omega) (by omega)]
 refine Ev.bind e1 ?_
 simp only [if_pos (show P.length < 5864062014805 by omega), e2, Option.bind_some, if_pos (show C.length < 17592186044416 by omega)]
 exact e
theorem drawFrom_l (l : List Int) (hl : Bytes l) (n : Nat) (h1n : 1 ≤ n) (hn : n ≤ 6) : ∀ (d : Nat) (P : List (List Int)) (C : List Int) (a s : Int), P.length + d ≤ 45 → C.length + d ≤ 45 → (∀ x ∈ P, x.length ≤ 10) → 0 ≤ a → a + 100 * (d : Int) ≤ 100000 → ∃ r, Ev (fun k => spec_DrawFromParts.l0 k (n : Int) P C (d : Int) l a s) r ∧ Lots r.1 r.2 := by
 intro d
 induction d with
 | zero => exact fun P C a s hP hC hx h0 h1 => drawFrom_end l hl n h1n hn P (by omega) hx C a s (by omega) h0 (by omega)
 | succ d ih =>
  intro P C a s hP hC hx h0 h1
  refine drawFrom_step l hl n h1n hn ((d + 1 : Nat) : Int) (by omega) (by omega) P C a s (by omega) (by omega) hx h0 (by omega) fun p c a2 s2 hp g0 g1 => ?_
  rw [show ((d + 1 : Nat) : Int) - 1 = (d : Int) by omega]
  exact ih (P ++ [p]) (C ++ [c]) a2 s2 (by rw [List.length_append, List.length_singleton]; omega) (by rw [List.length_append, List.length_singleton]; omega) (fun x hx2 => by
   rcases List.mem_append.1 hx2 with h | h
   · exact hx x h
   · rw [List.mem_singleton.1 h]; omega) (by omega) (by omega)
theorem drawFrom_ev (l : List Int) (hl : Bytes l) : ∃ r, Ev (fun k => spec_DrawFromParts.f k l) r ∧ Lots r.1 r.2 := by
 obtain ⟨x, a1, s1, e1, hx, b0, b1⟩ := among_ev l hl 0 0 ([1, 2, 3, 3, 3, 4, 4, 6] : List Int) (by decide) (by omega) (by omega)
 have hx := side_mem hx
 obtain ⟨n, rfl⟩ : ∃ n : Nat, x = (n : Int) := ⟨x.toNat, by omega⟩
 obtain ⟨d, a2, s2, e2, hd, c0, c1⟩ := among_ev l hl a1 s1 ([0, 1, 2, 3, 5, 40, 41] : List Int) (by decide) (by omega) (by omega)
 have hd : 0 ≤ d ∧ d ≤ 41 := by
  simp only [List.mem_cons, List.not_mem_nil, or_false] at hd
  omega
 obtain ⟨m, rfl⟩ : ∃ m : Nat, d = (m : Int) := ⟨d.toNat, by omega⟩
 obtain ⟨r, e, q⟩ := drawFrom_l l hl n (by omega) (by omega) m [] [] a2 s2 (by simp only [List.length_nil]; omega) (by simp only [List.length_nil]; omega) (by simp) (by omega) (by omega)
 refine ⟨r, ?_, q⟩
 unfold spec_DrawFromParts.f spec_l1Cur_side.f
 simp only [e1, e2, Option.bind_some]
 exact e
theorem Lots.tot {P : List (List Int)} {C : List Int} (h : Lots P C) : P.length ≤ 1048576 ∧ totSS P ≤ 1048576 ∧ C.length ≤ 1048576 := by
 have := tot_le h.2.2
 have h1 := h.1
 have h2 := h.2.1
 omega
end Go.Proofs.Ytgcgecbdmomceaa.A

namespace Go.Proofs.Ytgcgecbdmomceaa.A
open Go.RowKit Go.Proofs.YtgcgecbdmomceaaW.PrintWords Go.Proofs.YtgcgecbdmomceaaW.PrintLast Go.Proofs.YtgcgecbdmomceaaW.PrintMore
set_option linter.unusedVariables false
set_option linter.unusedSimpArgs false
/-! square, doEmpty: what they make -/
theorem square_l1 (F : Int → Int → Option Int) (G : Nat → Nat → Int) (n : Nat) (hn : n ≤ 1000) (hF : ∀ i j, i < n → j < n → F (i : Int) (j : Int) = some (G i j)) (i : Nat) (hi : i < n) (X : List (List Int)) {r : List (List Int)} (hr : Ev (fun k => if X.length < 5864062014805 then impl_square.l0 F k (n : Int) (X ++ [(List.range n).map fun j => G i j]) (n : Int) ((i + 1 : Nat) : Int) else none) r) : ∀ (m j : Nat), j + m = n → Ev (fun k => impl_square.l1 F k (n : Int) X (i : Int) ((List.range j).map fun j => G i j) (n : Int) (i : Int) (n : Int) (j : Int)) r
 | 0, j, e => by
  have ej : j = n := by omega
  subst ej
  refine Ev.succ ?_
  simp only [impl_square.l1, if_neg (show ¬ (j : Int) < (j : Int) by omega), wsucc hi (by omega)]
  exact hr
 | m + 1, j, e => by
  refine Ev.succ ?_
  have hj : j < n := by omega
  simp only [impl_square.l1, if_pos (show (j : Int) < (n : Int) by omega), hF i j hi hj, Option.bind_some, List.length_map, List.length_range, if_pos (show j < 17592186044416 by omega), wsucc hj (by omega)]
  have := square_l1 F G n hn hF i hi X hr m (j + 1) (by omega)
  rw [List.range_succ, List.map_append] at this
  exact this
theorem square_l0 (F : Int → Int → Option Int) (G : Nat → Nat → Int) (n : Nat) (hn : n ≤ 1000) (hF : ∀ i j, i < n → j < n → F (i : Int) (j : Int) = some (G i j)) : ∀ (m i : Nat), i + m = n → Ev (fun k => impl_square.l0 F k (n : Int) ((List.range i).map fun i => (List.range n).map fun j => G i j) (n : Int) (i : Int)) (tabG n G)
 | 0, i, e => by
  have ei : i = n := by omega
  subst ei
  refine Ev.succ ?_
  simp only [impl_square.l0, if_neg (show ¬ (i : Int) < (i : Int) by omega)]
  exact Ev.now _
 | m + 1, i, e => by
  refine Ev.succ ?_
  have hi : i < n := by omega
  simp only [impl_square.l0, if_pos (show (i : Int) < (n : Int) by omega)]
  refine square_l1 F G n hn hF i hi _ ?_ n 0 (by omega)
  simp only [List.length_map, List.length_range, if_pos (show i < 5864062014805 by omega)]
  have := square_l0 F G n hn hF m (i + 1) (by omega)
  rw [List.range_succ, List.map_append] at this
  exact this
theorem square_ev (F : Int → Int → Option Int) (G : Nat → Nat → Int) (n : Nat) (hn : n ≤ 1000) (hF : ∀ i j, i < n → j < n → F (i : Int) (j : Int) = some (G i j)) : Ev (fun k => impl_square.f F k (n : Int)) (tabG n G) := by
 unfold impl_square.f
 exact square_l0 F G n hn hF n 0 (by omega)
end Go.Proofs.Ytgcgecbdmomceaa.A

namespace Go.Proofs.Ytgcgecbdmomceaa.A
open Go.RowKit Go.Proofs.YtgcgecbdmomceaaW.PrintWords Go.Proofs.YtgcgecbdmomceaaW.PrintLast Go.Proofs.YtgcgecbdmomceaaW.PrintMore
set_option linter.unusedVariables false
set_option linter.unusedSimpArgs false
/-! FromParts -/
def sumK (ps : List (List Int)) (cs : List Int) : Nat → Nat → Nat → Int
 | 0, _, _ => 0
 | k + 1, a, b => sumK ps cs k a b + (if rd (rd_L2 ps (k : Int)) (a : Int) = (b : Int) then rd cs (k : Int) else 0)
theorem sumK_bd (ps : List (List Int)) (cs : List Int) (hc : ∀ k, k < cs.length → 0 ≤ rd cs (k : Int) ∧ rd cs (k : Int) ≤ 1000000) (a b : Nat) : ∀ k, k ≤ cs.length → 0 ≤ sumK ps cs k a b ∧ sumK ps cs k a b ≤ 1000000 * (k : Int)
 | 0, _ => by simp [sumK]
 | k + 1, h => by
  have ih := sumK_bd ps cs hc a b k (by omega)
  have h1 := hc k (by omega)
  unfold sumK
  split <;> omega
structure Parts (ps : List (List Int)) (cs : List Int) (n : Nat) : Prop where
 len : cs.length = ps.length
 few : ps.length ≤ 40
 n6 : n ≤ 6
 pl : ∀ k, k < ps.length → (rd_L2 ps (k : Int)).length = n ∧ ∀ i, i < n → 0 ≤ rd (rd_L2 ps (k : Int)) (i : Int) ∧ rd (rd_L2 ps (k : Int)) (i : Int) < (n : Int)
 cs : ∀ k, k < cs.length → 0 ≤ rd cs (k : Int) ∧ rd cs (k : Int) ≤ 1000000
def midK (ps : List (List Int)) (cs : List Int) (k i : Nat) (a b : Nat) : Int := if a < i then sumK ps cs (k + 1) a b else sumK ps cs k a b
theorem midK_step {ps : List (List Int)} {cs : List Int} {n : Nat} (h : Parts ps cs n) {k i : Nat} (hk : k < ps.length) (hi : i < n) (x : Nat) (hx : rd (rd_L2 ps (k : Int)) (i : Int) = (x : Int)) : tabG n (updG (midK ps cs k i) i x (wrap64 (midK ps cs k i i x + rd cs (k : Int)))) = tabG n (midK ps cs k (i + 1)) := tabG_congr fun a b ha hb => by
 have hc := h.len
 have hf := h.few
 unfold updG
 by_cases c : a = i ∧ b = x
 · obtain ⟨rfl, rfl⟩ := c
   rw [if_pos ⟨rfl, rfl⟩]
   unfold midK
   have b1 := sumK_bd ps cs h.cs a b k (by omega)
   have b2 := h.cs k (by omega)
   rw [if_neg (by omega), if_pos (by omega), w64 (by omega) (by omega)]
   show _ = sumK ps cs k a b + _
   rw [if_pos hx]
 · rw [if_neg c]
   unfold midK
   by_cases d : a < i
   · rw [if_pos d, if_pos (by omega)]
   · rw [if_neg d]
     by_cases e : a = i
     · subst e
       rw [if_pos (by omega)]
       show _ = sumK ps cs k a b + _
       rw [hx, if_neg (by omega)]
       omega
     · rw [if_neg (by omega)]
theorem fromI_l1 {ps : List (List Int)} {cs : List Int} {n : Nat} (h : Parts ps cs n) {k : Nat} (hk : k < ps.length) {r : List (List Int) × Bool} (hr : Ev (fun q => impl_FromParts.l0 q cs (tabG n (sumK ps cs (k + 1))) ps (ps.length : Int) ((k + 1 : Nat) : Int)) r) : ∀ (m i : Nat), i + m = n → Ev (fun q => impl_FromParts.l1 q cs (tabG n (midK ps cs k i)) (k : Int) ps (ps.length : Int) (k : Int) (rd_L2 ps (k : Int)) ((rd_L2 ps (k : Int)).length : Int) (i : Int)) r
 | 0, i, e => by
  have hp := (h.pl k hk).1
  have hf := h.few
  refine Ev.succ ?_
  simp only [impl_FromParts.l1, hp, if_neg (show ¬ (i : Int) < (n : Int) by omega), wsucc hk (by omega)]
  rw [tabG_congr (G' := sumK ps cs (k + 1)) (fun a b ha _ => by unfold midK; rw [if_pos (by omega)])]
  exact hr
 | m + 1, i, e => by
  have hp := (h.pl k hk).1
  have hi : i < n := by omega
  have hx := (h.pl k hk).2 i hi
  have hn := h.n6
  have hc := h.len
  obtain ⟨x, hxe⟩ := Int.eq_ofNat_of_zero_le hx.1
  refine Ev.succ ?_
  simp only [impl_FromParts.l1, hp, if_pos (show (i : Int) < (n : Int) by omega), if_pos (show (0 : Int) ≤ (i : Int) by omega), tabG_length, tabG_rowlen _ hi, hxe, if_pos (show (0 : Int) ≤ (x : Int) by omega), if_pos (show (x : Int) < (n : Int) by omega), if_pos (show (0 : Int) ≤ (k : Int) by omega), if_pos (show (k : Int) < (cs.length : Int) by omega), Int.toNat_natCast, tabG_set _ _ _ hi, tabG_at _ hi (show x < n by omega), wsucc hi (by omega)]
  rw [midK_step h hk hi x hxe]
  have ih := fromI_l1 h hk hr m (i + 1) (by omega)
  simp only [hp] at ih
  exact ih
theorem fromI_l0 {ps : List (List Int)} {cs : List Int} {n : Nat} (h : Parts ps cs n) : ∀ (m k : Nat), k + m = ps.length → Ev (fun q => impl_FromParts.l0 q cs (tabG n (sumK ps cs k)) ps (ps.length : Int) (k : Int)) (checkR (tabG n (sumK ps cs ps.length)))
 | 0, k, e => by
  have ek : k = ps.length := by omega
  subst ek
  refine Ev.succ ?_
  simp only [impl_FromParts.l0, if_neg (Int.lt_irrefl _), checkedG_eq _ h.n6, Option.bind_some]
  exact Ev.now _
 | m + 1, k, e => by
  have hk : k < ps.length := by omega
  refine Ev.succ ?_
  simp only [impl_FromParts.l0, if_pos (show (k : Int) < (ps.length : Int) by omega), if_pos (show (0 : Int) ≤ (k : Int) by omega)]
  have := fromI_l1 h hk (fromI_l0 h m (k + 1) (by omega)) n 0 (by omega)
  rw [tabG_congr (G' := sumK ps cs k) (fun a b ha _ => by unfold midK; rw [if_neg (by omega)])] at this
  exact this
theorem fromS_l2 {ps : List (List Int)} {cs : List Int} {n : Nat} (h : Parts ps cs n) {k : Nat} (hk : k < ps.length) {r : List (List Int) × Bool} (hr : Ev (fun q => spec_FromParts.l1 q cs (tabG n (sumK ps cs (k + 1))) ps (ps.length : Int) ((k + 1 : Nat) : Int)) r) : ∀ (m i : Nat), i + m = n → Ev (fun q => spec_FromParts.l2 q cs (tabG n (midK ps cs k i)) (k : Int) ps (ps.length : Int) (k : Int) (rd_L2 ps (k : Int)) ((rd_L2 ps (k : Int)).length : Int) (i : Int)) r
 | 0, i, e => by
  have hp := (h.pl k hk).1
  have hf := h.few
  refine Ev.succ ?_
  simp only [spec_FromParts.l2, hp, if_neg (show ¬ (i : Int) < (n : Int) by omega), wsucc hk (by omega)]
  rw [tabG_congr (G' := sumK ps cs (k + 1)) (fun a b ha _ => by unfold midK; rw [if_pos (by omega)])]
  exact hr
 | m + 1, i, e => by
  have hp := (h.pl k hk).1
  have hi : i < n := by omega
  have hx := (h.pl k hk).2 i hi
  have hn := h.n6
  have hc := h.len
  obtain ⟨x, hxe⟩ := Int.eq_ofNat_of_zero_le hx.1
  refine Ev.succ ?_
  simp only [spec_FromParts.l2, hp, if_pos (show (i : Int) < (n : Int) by omega), if_pos (show (0 : Int) ≤ (i : Int) by omega), tabG_length, tabG_rowlen _ hi, hxe, if_pos (show (0 : Int) ≤ (x : Int) by omega), if_pos (show (x : Int) < (n : Int) by omega), if_pos (show (0 : Int) ≤ (k : Int) by omega), if_pos (show (k : Int) < (cs.length : Int) by omega), Int.toNat_natCast, tabG_set _ _ _ hi, tabG_at _ hi (show x < n by omega), wsucc hi (by omega)]
  rw [midK_step h hk hi x hxe]
  have ih := fromS_l2 h hk hr m (i + 1) (by omega)
  simp only [hp] at ih
  exact ih
theorem fromS_l1 {ps : List (List Int)} {cs : List Int} {n : Nat} (h : Parts ps cs n) : ∀ (m k : Nat), k + m = ps.length → Ev (fun q => spec_FromParts.l1 q cs (tabG n (sumK ps cs k)) ps (ps.length : Int) (k : Int)) (checkR (tabG n (sumK ps cs ps.length)))
 | 0, k, e => by
  have ek : k = ps.length := by omega
  subst ek
  refine Ev.succ ?_
  simp only [spec_FromParts.l1, if_neg (Int.lt_irrefl _)]
  exact Ev.bind (doIfG_ev _ h.n6 _) (Ev.now _)
 | m + 1, k, e => by
  have hk : k < ps.length := by omega
  refine Ev.succ ?_
  simp only [spec_FromParts.l1, if_pos (show (k : Int) < (ps.length : Int) by omega), if_pos (show (0 : Int) ≤ (k : Int) by omega)]
  have := fromS_l2 h hk (fromS_l1 h m (k + 1) (by omega)) n 0 (by omega)
  rw [tabG_congr (G' := sumK ps cs k) (fun a b ha _ => by unfold midK; rw [if_neg (by omega)])] at this
  exact this
def goodP (n : Nat) (x : List Int) : Bool := decide ((x.length : Int) = (n : Int)) && placeB x
def frR (ps : List (List Int)) (cs : List Int) : List (List Int) × Bool := if 1 ≤ (ps.length : Int) ∧ (ps.length : Int) ≤ 40 then (if (cs.length : Int) = (ps.length : Int) then (if inR 0 1000000 cs = true then (if ps.all (goodP (rd_L2 ps 0).length) = true then checkR (tabG (rd_L2 ps 0).length (sumK ps cs ps.length)) else ([], false)) else ([], false)) else ([], false)) else ([], false)
theorem frR_bd (ps : List (List Int)) (cs : List Int) : totSS (frR ps cs).1 ≤ 1000 ∧ (frR ps cs).1.length ≤ 1000 := by
 have h0 : totSS ([] : List (List Int)) ≤ 1000 ∧ ([] : List (List Int)).length ≤ 1000 := by simp [totSS]
 unfold frR
 repeat' split
 · exact checkR_bd _
 all_goals exact h0
theorem parts_of {ps : List (List Int)} {cs : List Int} (h1 : 1 ≤ (ps.length : Int) ∧ (ps.length : Int) ≤ 40) (h2 : (cs.length : Int) = (ps.length : Int)) (h3 : inR 0 1000000 cs = true) (h4 : ps.all (goodP (rd_L2 ps 0).length) = true) : Parts ps cs (rd_L2 ps 0).length := by
 have e0 : rd_L2 ps 0 = ps[0]'(by omega) := rd_L1n (i := 0) (by omega)
 rw [List.all_eq_true] at h4
 have g : ∀ x ∈ ps, x.length = (rd_L2 ps 0).length ∧ placeB x = true := fun x hx => by
  have := h4 x hx
  unfold goodP at this
  rw [Bool.and_eq_true, decide_eq_true_eq] at this
  exact ⟨by omega, this.2⟩
 refine ⟨by omega, by omega, ?_, fun k hk => ?_, fun k hk => ?_⟩
 · have := placeB_len (g _ (List.getElem_mem (show 0 < ps.length by omega))).2
   rw [e0]
   omega
 · have hg := g _ (List.getElem_mem hk)
   rw [rd_L1n hk]
   refine ⟨hg.1, fun i hi => ?_⟩
   have hp := placeB_len hg.2
   rw [rdn (show i < (ps[k]).length by omega)]
   have := hp.2.2.2 _ (List.getElem_mem (show i < (ps[k]).length by omega))
   omega
 · unfold inR at h3
   simp only [List.all_eq_true, decide_eq_true_eq] at h3
   rw [rdn hk]
   exact h3 _ (List.getElem_mem hk)
theorem fromS_l0 (ps : List (List Int)) (cs : List Int) (h1 : 1 ≤ (ps.length : Int) ∧ (ps.length : Int) ≤ 40) {r : List (List Int) × Bool} (hyes : ps.all (goodP (rd_L2 ps 0).length) = true → Ev (fun q => (spec_doEmpty.f q ((rd_L2 ps 0).length : Int)).bind fun t401 => spec_FromParts.l1 q cs t401 ps (ps.length : Int) 0) r) (hno : ps.all (goodP (rd_L2 ps 0).length) = false → r = ([], false)) : ∀ (m k : Nat), k + m = ps.length → (ps.take k).all (goodP (rd_L2 ps 0).length) = true → Ev (fun q => spec_FromParts.l0 q ps cs ps (ps.length : Int) (k : Int)) r
 | 0, k, e, ha => by
  refine Ev.succ ?_
  simp only [spec_FromParts.l0, if_neg (show ¬ (k : Int) < (ps.length : Int) by omega), if_pos (show (0 : Int) < (ps.length : Int) by omega)]
  rw [List.take_of_length_le (by omega)] at ha
  exact hyes ha
 | m + 1, k, e, ha => by
  have hk : k < ps.length := by omega
  have bad : goodP (rd_L2 ps 0).length ps[k] = false → r = ([], false) := fun hb => hno (by
   rw [List.all_eq_false]
   exact ⟨_, List.getElem_mem hk, by rw [hb]; decide⟩)
  refine Ev.succ ?_
  simp only [spec_FromParts.l0, if_pos (show (k : Int) < (ps.length : Int) by omega), if_pos (show (0 : Int) ≤ (k : Int) by omega), if_pos (show (0 : Int) < (ps.length : Int) by omega), rd_L1n hk, wsucc hk (by omega)]
  refine Ev.bind (doPlacing_ev ps[k]) ?_
  by_cases c1 : placeB ps[k] = true
  · simp only [if_pos c1]
    by_cases c2 : ((ps[k]).length : Int) = ((rd_L2 ps 0).length : Int)
    · simp only [if_pos c2]
      refine fromS_l0 ps cs h1 hyes hno m (k + 1) (by omega) ?_
      rw [List.take_succ_eq_append_getElem hk, List.all_append, ha, Bool.true_and, List.all_cons, List.all_nil, Bool.and_true]
      unfold goodP
      rw [decide_eq_true c2, c1]
      rfl
    · simp only [if_neg c2]
      rw [bad (by unfold goodP; rw [decide_eq_false c2]; rfl)]
      exact Ev.now _
  · simp only [if_neg c1]
    rw [bad (by unfold goodP; rw [Bool.eq_false_iff.mpr c1, Bool.and_false])]
    exact Ev.now _
theorem zeros_sum (ps : List (List Int)) (cs : List Int) (n : Nat) : tabG n (fun _ _ => 0) = tabG n (sumK ps cs 0) := tabG_congr fun _ _ _ _ => rfl
theorem specFromParts_ev (l0 : List (List Int)) (l1 : List Int) (u0 : l0.length ≤ 1048576) (v0 : totSS l0 ≤ 1048576) (u1 : l1.length ≤ 1048576) : Ev (fun k => spec_FromParts.f k l0 l1) (frR l0 l1) := by
 have stop : Ev (fun k => spec_FromParts.j0 k l0 l1 true) (([], false) : List (List Int) × Bool) := Ev.succ (by simp only [spec_FromParts.j0, if_true]; exact Ev.now _)
 unfold spec_FromParts.f frR
 simp only [l1In_eq, Option.bind_some, decide_eq_true_eq]
 refine Ev.ite (fun h1 => Ev.ite (fun h2 => ?_) (fun _ => stop)) (fun _ => stop)
 refine Ev.bind (l1All_ev l1 0 1000000 (by omega)) ?_
 by_cases h3 : inR 0 1000000 l1 = true
 · simp only [if_pos h3]
   rw [h3]
   refine Ev.succ ?_
   simp only [spec_FromParts.j0, Bool.not_true, Bool.false_eq_true, if_false]
   refine fromS_l0 l0 l1 h1 (fun h4 => ?_) (fun h4 => by rw [h4]; simp) l0.length 0 (by omega) (by simp)
   have hP := parts_of h1 h2 h3 h4
   have hn := hP.n6
   refine Ev.bind (doEmpty_ev (rd_L2 l0 0).length (by omega)) ?_
   rw [if_pos h4, zeros_sum l0 l1]
   exact fromS_l1 hP l0.length 0 (by omega)
 · simp only [if_neg h3]
   rw [Bool.eq_false_iff.mpr h3]
   exact stop
theorem implFromParts_ev (l0 : List (List Int)) (l1 : List Int) (u0 : l0.length ≤ 1048576) (v0 : totSS l0 ≤ 1048576) (u1 : l1.length ≤ 1048576) : Ev (fun k => impl_FromParts.f k l0 l1) (frR l0 l1) := by
 have stop : Ev (fun k => impl_FromParts.j0 k l1 l0 true) (([], false) : List (List Int) × Bool) := Ev.succ (by simp only [impl_FromParts.j0, if_true]; exact Ev.now _)
 unfold impl_FromParts.f frR
 simp only [within_eq, Option.bind_some, decide_eq_true_eq]
 refine Ev.ite (fun h1 => Ev.ite (fun h2 => ?_) (fun _ => stop)) (fun _ => stop)
 refine Ev.bind (allWithin_ev l1 0 1000000 (by omega)) ?_
 by_cases h3 : inR 0 1000000 l1 = true
 · simp only [if_pos h3]
   rw [h3]
   refine Ev.succ ?_
   simp only [impl_FromParts.j0, Bool.not_true, Bool.false_eq_true, if_false]
   have hbad : badAny l0 = some (l0.any (badP (rd_L2 l0 0).length)) := by
    unfold badAny
    rw [if_pos ⟨List.all_eq_true.2 fun x h => decide_eq_true (Nat.le_trans (len_tot h) v0), u0, by omega⟩]
   have hng : l0.any (badP (rd_L2 l0 0).length) = !(l0.all (goodP (rd_L2 l0 0).length)) := by
    rw [List.not_all_eq_any_not]
    rfl
   simp only [hbad, Option.bind_some]
   rw [hng]
   cases h4 : l0.all (goodP (rd_L2 l0 0).length) with
   | false =>
    simp only [Bool.not_false, if_true, Bool.false_eq_true, if_false]
    exact Ev.now _
   | true =>
    simp only [Bool.not_true, Bool.false_eq_true, if_false, if_true, if_pos (show (0 : Int) < (l0.length : Int) by omega)]
    have hP := parts_of h1 h2 h3 h4
    have hn := hP.n6
    refine Ev.bind (square_ev _ (fun _ _ => 0) (rd_L2 l0 0).length (by omega) (fun _ _ _ _ => rfl)) ?_
    rw [zeros_sum l0 l1]
    exact fromI_l0 hP l0.length 0 (by omega)
 · simp only [if_neg h3]
   rw [Bool.eq_false_iff.mpr h3]
   exact stop
end Go.Proofs.Ytgcgecbdmomceaa.A

namespace Go.Proofs.Ytgcgecbdmomceaa.A
open Go.RowKit Go.Proofs.YtgcgecbdmomceaaW.PrintWords Go.Proofs.YtgcgecbdmomceaaW.PrintLast Go.Proofs.YtgcgecbdmomceaaW.PrintMore
set_option linter.unusedVariables false
set_option linter.unusedSimpArgs false
/-! the words that the laws share -/
theorem Ev.ite' {α : Type} {c : Prop} [Decidable c] {g f : Nat → Option α} {r : α} (h : c → Ev g r) (h' : ¬ c → Ev f r) : Ev (fun k => if c then g k else f k) r := by
 by_cases hc : c
 · simp only [hc, if_true]
   exact h hc
 · simp only [hc, if_false]
   exact h' hc
theorem big_eq (a b : List Int) (ha : a.length ≤ 140737488355328) : laws_big.f a b = some (decide ((a.length : Int) > 1048576 ∨ (b.length : Int) > 1048576 - (a.length : Int))) := by
 unfold laws_big.f
 rw [w64 (x := 1048576 - (a.length : Int)) (by omega) (by omega)]
 by_cases h : (a.length : Int) > 1048576
 · simp [h]
 · simp only [if_neg h]
   congr 1
   by_cases h2 : (b.length : Int) > 1048576 - (a.length : Int)
   · rw [decide_eq_true h2, decide_eq_true (.inr h2)]
   · rw [decide_eq_false h2, decide_eq_false (by omega)]
theorem bytes_of {l : List Int} (h : l.length ≤ 1048576) (hx : ∀ x ∈ l, (Lit.int .u8 x).wf = true) : Bytes l := by
 refine ⟨h, fun x hm => ?_⟩
 have := hx x hm
 simp only [Lit.wf, Bool.and_eq_true, decide_eq_true_eq] at this
 exact ⟨this.1, this.2⟩
theorem big_cut (l0 l1 : List Int) (g0 : l0.length * 1 ≤ 140737488351232) (x0 : ∀ x ∈ l0, (Lit.int .u8 x).wf = true) (x1 : ∀ x ∈ l1, (Lit.int .u8 x).wf = true) : laws_big.f l0 l1 = some true ∨ laws_big.f l0 l1 = some false ∧ Bytes l0 ∧ Bytes l1 := by
 rw [big_eq l0 l1 (by omega)]
 by_cases hb : (l0.length : Int) > 1048576 ∨ (l1.length : Int) > 1048576 - (l0.length : Int)
 · rw [decide_eq_true hb]
   exact .inl rfl
 · rw [decide_eq_false hb]
   exact .inr ⟨rfl, bytes_of (by omega) x0, bytes_of (by omega) x1⟩
end Go.Proofs.Ytgcgecbdmomceaa.A

namespace Go.Proofs.Ytgcgecbdmomceaa.A
open Go.RowKit Go.Proofs.YtgcgecbdmomceaaW.PrintWords Go.Proofs.YtgcgecbdmomceaaW.PrintLast Go.Proofs.YtgcgecbdmomceaaW.PrintMore
set_option linter.unusedVariables false
set_option linter.unusedSimpArgs false
/-! Hall's theorem over the numbers below n: sets are functions to Bool -/
def cardB (n : Nat) (S : Nat → Bool) : Nat := (List.range n).countP S
theorem countP_sub {α : Type} (A B D : α → Bool) : ∀ l : List α, (∀ x ∈ l, A x = true → B x = true ∨ D x = true) → l.countP A ≤ l.countP B + l.countP D
 | [], _ => by simp
 | x :: l, h => by
  have ih := countP_sub A B D l (fun y hy => h y (List.mem_cons_of_mem _ hy))
  have hx := h x List.mem_cons_self
  rw [List.countP_cons, List.countP_cons, List.countP_cons]
  cases hA : A x with
  | false => simp only [Bool.false_eq_true, if_false]; omega
  | true =>
   rcases hx hA with hB | hD
   · rw [hB]; simp only [if_true]; omega
   · rw [hD]; simp only [if_true]; omega
theorem countP_two {α : Type} (A B D : α → Bool) : ∀ l : List α, (∀ x ∈ l, B x = true → A x = true ∧ D x = false) → (∀ x ∈ l, D x = true → A x = true) → l.countP B + l.countP D ≤ l.countP A
 | [], _, _ => by simp
 | x :: l, h, k => by
  have ih := countP_two A B D l (fun y hy => h y (List.mem_cons_of_mem _ hy)) (fun y hy => k y (List.mem_cons_of_mem _ hy))
  have hx := h x List.mem_cons_self
  have kx := k x List.mem_cons_self
  rw [List.countP_cons, List.countP_cons, List.countP_cons]
  cases hB : B x with
  | true =>
   obtain ⟨h1, h2⟩ := hx hB
   rw [h1, h2]
   simp only [if_true, Bool.false_eq_true, if_false]
   omega
  | false =>
   cases hD : D x with
   | true =>
    rw [kx hD]
    simp only [if_true, Bool.false_eq_true, if_false]
    omega
   | false =>
    simp only [Bool.false_eq_true, if_false]
    omega
theorem cardB_pos {n : Nat} {S : Nat → Bool} {i : Nat} (hi : i < n) (h : S i = true) : 0 < cardB n S := by
 unfold cardB
 rw [List.countP_pos_iff]
 exact ⟨i, List.mem_range.2 hi, h⟩
theorem cardB_ex {n : Nat} {S : Nat → Bool} (h : 0 < cardB n S) : ∃ i, i < n ∧ S i = true := by
 unfold cardB at h
 rw [List.countP_pos_iff] at h
 obtain ⟨i, hi, hs⟩ := h
 exact ⟨i, List.mem_range.1 hi, hs⟩
theorem cardB_one (n c : Nat) : cardB n (fun j => j == c) ≤ 1 := by
 have h := List.nodup_iff_count.1 (List.nodup_range (n := n)) c
 exact h
theorem cardB_le {n : Nat} {A B : Nat → Bool} (h : ∀ i, i < n → A i = true → B i = true) : cardB n A ≤ cardB n B := List.countP_mono_left fun i hi ha => h i (List.mem_range.1 hi) ha
def nbr (n : Nat) (P : Nat → Nat → Bool) (C S : Nat → Bool) (j : Nat) : Bool := C j && (List.range n).any fun i => S i && P i j
theorem nbr_iff {n : Nat} {P : Nat → Nat → Bool} {C S : Nat → Bool} {j : Nat} : nbr n P C S j = true ↔ C j = true ∧ ∃ i, i < n ∧ S i = true ∧ P i j = true := by
 unfold nbr
 simp only [Bool.and_eq_true, List.any_eq_true, List.mem_range]
theorem hall (n : Nat) (P : Nat → Nat → Bool) : ∀ (m : Nat) (R C : Nat → Bool), cardB n R ≤ m → (∀ S : Nat → Bool, (∀ i, i < n → S i = true → R i = true) → cardB n S ≤ cardB n (nbr n P C S)) → ∃ f : Nat → Nat, (∀ i, i < n → R i = true → f i < n ∧ C (f i) = true ∧ P i (f i) = true) ∧ ∀ i j, i < n → j < n → R i = true → R j = true → f i = f j → i = j
 | 0, R, C, hR, _ => by
  have hno : ∀ i, i < n → R i = true → False := fun i hi h => by have := cardB_pos hi h; omega
  exact ⟨id, fun i hi h => (hno i hi h).elim, fun i j hi _ h _ _ => (hno i hi h).elim⟩
 | m + 1, R, C, hR, hH => by
  by_cases hex : 0 < cardB n R
  · obtain ⟨r, hr, hRr⟩ := cardB_ex hex
    by_cases hB : ∃ S : Nat → Bool, (∀ i, i < n → S i = true → R i = true) ∧ 0 < cardB n S ∧ cardB n S < cardB n R ∧ cardB n (nbr n P C S) ≤ cardB n S
    · obtain ⟨S, hS, h0, h1, h2⟩ := hB
      obtain ⟨f1, a1, b1⟩ := hall n P m S C (by omega) (fun T hT => hH T (fun i hi h => hS i hi (hT i hi h)))
      have hsplit : cardB n (fun i => R i && !S i) + cardB n S ≤ cardB n R := countP_two R (fun i => R i && !S i) S (List.range n) (fun i _ h => by simp only [Bool.and_eq_true, Bool.not_eq_true'] at h; exact h) (fun i hi h => hS i (List.mem_range.1 hi) h)
      obtain ⟨f2, a2, b2⟩ := hall n P m (fun i => R i && !S i) (fun j => C j && !nbr n P C S j) (by omega) (fun T hT => by
       have hT' : ∀ i, i < n → T i = true → R i = true ∧ S i = false := fun i hi h => by have := hT i hi h; simp only [Bool.and_eq_true, Bool.not_eq_true'] at this; exact this
       have e1 : cardB n T + cardB n S ≤ cardB n (fun i => T i || S i) := countP_two (fun i => T i || S i) T S (List.range n) (fun i hi h => ⟨by simp [h], (hT' i (List.mem_range.1 hi) h).2⟩) (fun i _ h => by simp [h])
       have e2 := hH (fun i => T i || S i) (fun i hi h => by
        simp only [Bool.or_eq_true] at h
        rcases h with h | h
        · exact (hT' i hi h).1
        · exact hS i hi h)
       have e3 : cardB n (nbr n P C (fun i => T i || S i)) ≤ cardB n (nbr n P (fun j => C j && !nbr n P C S j) T) + cardB n (nbr n P C S) := countP_sub _ _ _ (List.range n) (fun j _ h => by
        obtain ⟨hc, i, hi, hs, hp⟩ := nbr_iff.1 h
        by_cases hn : nbr n P C S j = true
        · exact .inr hn
        · refine .inl (nbr_iff.2 ⟨by simp only [Bool.and_eq_true, Bool.not_eq_true']; exact ⟨hc, by simpa using hn⟩, i, hi, ?_, hp⟩)
          simp only [Bool.or_eq_true] at hs
          rcases hs with hs | hs
          · exact hs
          · exact (hn (nbr_iff.2 ⟨hc, i, hi, hs, hp⟩)).elim)
       omega)
      have q1 : ∀ i, i < n → S i = true → nbr n P C S (f1 i) = true := fun i hi h => by
       obtain ⟨_, hc, hp⟩ := a1 i hi h
       exact nbr_iff.2 ⟨hc, i, hi, h, hp⟩
      have q2 : ∀ i, i < n → R i = true → ¬ S i = true → f2 i < n ∧ C (f2 i) = true ∧ nbr n P C S (f2 i) = false ∧ P i (f2 i) = true := fun i hi h hs => by
       obtain ⟨u, v, w⟩ := a2 i hi (by simp only [Bool.and_eq_true, Bool.not_eq_true']; exact ⟨h, by simpa using hs⟩)
       simp only [Bool.and_eq_true, Bool.not_eq_true'] at v
       exact ⟨u, v.1, v.2, w⟩
      refine ⟨fun i => if S i = true then f1 i else f2 i, fun i hi h => ?_, fun i j hi hj h k e => ?_⟩
      · show (if S i = true then f1 i else f2 i) < n ∧ C (if S i = true then f1 i else f2 i) = true ∧ P i (if S i = true then f1 i else f2 i) = true
        by_cases hs : S i = true
        · rw [if_pos hs]
          exact a1 i hi hs
        · rw [if_neg hs]
          obtain ⟨u, v, _, w⟩ := q2 i hi h hs
          exact ⟨u, v, w⟩
      · simp only at e
        by_cases hs : S i = true
        · by_cases ht : S j = true
          · rw [if_pos hs, if_pos ht] at e
            exact b1 i j hi hj hs ht e
          · rw [if_pos hs, if_neg ht] at e
            have x1 := q1 i hi hs
            have x2 := (q2 j hj k ht).2.2.1
            rw [e, x2] at x1
            cases x1
        · by_cases ht : S j = true
          · rw [if_neg hs, if_pos ht] at e
            have x1 := q1 j hj ht
            have x2 := (q2 i hi h hs).2.2.1
            rw [← e, x2] at x1
            cases x1
          · rw [if_neg hs, if_neg ht] at e
            exact b2 i j hi hj (by simp only [Bool.and_eq_true, Bool.not_eq_true']; exact ⟨h, by simpa using hs⟩) (by simp only [Bool.and_eq_true, Bool.not_eq_true']; exact ⟨k, by simpa using ht⟩) e
    · have hA : ∀ T : Nat → Bool, (∀ i, i < n → T i = true → R i = true) → 0 < cardB n T → cardB n T < cardB n R → cardB n T + 1 ≤ cardB n (nbr n P C T) := fun T h1 h2 h3 => by
       have : ¬ cardB n (nbr n P C T) ≤ cardB n T := fun h4 => hB ⟨T, h1, h2, h3, h4⟩
       omega
      have hs1 : 0 < cardB n (fun i => i == r) := cardB_pos hr (by simp)
      have hN := hH (fun i => i == r) (fun i _ h => by
       have e : i = r := by simpa using h
       rw [e]
       exact hRr)
      obtain ⟨c, hc, hnc⟩ := cardB_ex (show 0 < cardB n (nbr n P C (fun i => i == r)) by omega)
      obtain ⟨hCc, i0, _, hi0, hP⟩ := nbr_iff.1 hnc
      have ei0 : i0 = r := by simpa using hi0
      subst ei0
      have hsplit : cardB n (fun i => R i && !(i == i0)) + cardB n (fun i => i == i0) ≤ cardB n R := countP_two R (fun i => R i && !(i == i0)) (fun i => i == i0) (List.range n) (fun i _ h => by simp only [Bool.and_eq_true, Bool.not_eq_true'] at h; exact h) (fun i _ h => by
       have e : i = i0 := by simpa using h
       rw [e]
       exact hRr)
      obtain ⟨f1, a1, b1⟩ := hall n P m (fun i => R i && !(i == i0)) (fun j => C j && !(j == c)) (by omega) (fun T hT => by
       by_cases ht0 : 0 < cardB n T
       · have hTR : ∀ i, i < n → T i = true → R i = true := fun i hi h => by have := hT i hi h; simp only [Bool.and_eq_true] at this; exact this.1
         have hle : cardB n T ≤ cardB n (fun i => R i && !(i == i0)) := cardB_le hT
         have g := hA T hTR ht0 (by omega)
         have e3 : cardB n (nbr n P C T) ≤ cardB n (nbr n P (fun j => C j && !(j == c)) T) + cardB n (fun j => j == c) := countP_sub _ _ _ (List.range n) (fun j _ h => by
          obtain ⟨hcj, i, hi, hs, hp⟩ := nbr_iff.1 h
          by_cases e : j = c
          · exact .inr (by simpa using e)
          · exact .inl (nbr_iff.2 ⟨by simp only [Bool.and_eq_true, Bool.not_eq_true']; exact ⟨hcj, by simpa using e⟩, i, hi, hs, hp⟩))
         have := cardB_one n c
         omega
       · omega)
      have q : ∀ i, i < n → R i = true → i ≠ i0 → f1 i < n ∧ C (f1 i) = true ∧ f1 i ≠ c ∧ P i (f1 i) = true := fun i hi h hne => by
       obtain ⟨u, v, w⟩ := a1 i hi (by simp only [Bool.and_eq_true, Bool.not_eq_true']; exact ⟨h, by simpa using hne⟩)
       simp only [Bool.and_eq_true, Bool.not_eq_true'] at v
       exact ⟨u, v.1, by simpa using v.2, w⟩
      refine ⟨fun i => if i = i0 then c else f1 i, fun i hi h => ?_, fun i j hi hj h k e => ?_⟩
      · show (if i = i0 then c else f1 i) < n ∧ C (if i = i0 then c else f1 i) = true ∧ P i (if i = i0 then c else f1 i) = true
        by_cases hs : i = i0
        · rw [if_pos hs, hs]
          exact ⟨hc, hCc, hP⟩
        · rw [if_neg hs]
          obtain ⟨u, v, _, w⟩ := q i hi h hs
          exact ⟨u, v, w⟩
      · simp only at e
        by_cases hs : i = i0
        · by_cases ht : j = i0
          · rw [hs, ht]
          · rw [if_pos hs, if_neg ht] at e
            exact ((q j hj k ht).2.2.1 e.symm).elim
        · by_cases ht : j = i0
          · rw [if_neg hs, if_pos ht] at e
            exact ((q i hi h hs).2.2.1 e).elim
          · rw [if_neg hs, if_neg ht] at e
            exact b1 i j hi hj (by simp only [Bool.and_eq_true, Bool.not_eq_true']; exact ⟨h, by simpa using hs⟩) (by simp only [Bool.and_eq_true, Bool.not_eq_true']; exact ⟨k, by simpa using ht⟩) e
  · have hno : ∀ i, i < n → R i = true → False := fun i hi h => hex (cardB_pos hi h)
    exact ⟨id, fun i hi h => (hno i hi h).elim, fun i j hi _ h _ _ => (hno i hi h).elim⟩
/-- A placing, or rows that refuse one. -/
theorem hall_or (n : Nat) (P : Nat → Nat → Bool) : (∃ f : Nat → Nat, (∀ i, i < n → f i < n ∧ P i (f i) = true) ∧ ∀ i j, i < n → j < n → f i = f j → i = j) ∨ ∃ S : Nat → Bool, cardB n (nbr n P (fun _ => true) S) < cardB n S := by
 by_cases h : ∀ S : Nat → Bool, cardB n S ≤ cardB n (nbr n P (fun _ => true) S)
 · obtain ⟨f, a, b⟩ := hall n P (cardB n (fun _ => true)) (fun _ => true) (fun _ => true) (Nat.le_refl _) (fun S _ => h S)
   exact .inl ⟨f, fun i hi => ⟨(a i hi rfl).1, (a i hi rfl).2.2⟩, fun i j hi hj e => b i j hi hj rfl rfl e⟩
 · obtain ⟨S, hS⟩ := Classical.not_forall.1 h
   exact .inr ⟨S, by omega⟩
end Go.Proofs.Ytgcgecbdmomceaa.A

namespace Go.Proofs.Ytgcgecbdmomceaa.A
open Go.RowKit Go.Proofs.YtgcgecbdmomceaaW.PrintWords Go.Proofs.YtgcgecbdmomceaaW.PrintLast Go.Proofs.YtgcgecbdmomceaaW.PrintMore
set_option linter.unusedVariables false
set_option linter.unusedSimpArgs false
end Go.Proofs.Ytgcgecbdmomceaa.A

namespace Go.Proofs.Ytgcgecbdmomceaa.A
open Go.RowKit Go.Proofs.YtgcgecbdmomceaaW.PrintWords Go.Proofs.YtgcgecbdmomceaaW.PrintLast Go.Proofs.YtgcgecbdmomceaaW.PrintMore
set_option linter.unusedVariables false
set_option linter.unusedSimpArgs false
end Go.Proofs.Ytgcgecbdmomceaa.A

namespace Go.Proofs.Ytgcgecbdmomceaa.A
open Go.RowKit Go.Proofs.YtgcgecbdmomceaaW.PrintWords Go.Proofs.YtgcgecbdmomceaaW.PrintLast Go.Proofs.YtgcgecbdmomceaaW.PrintMore
set_option linter.unusedVariables false
set_option linter.unusedSimpArgs false
theorem least_lt (P : Nat → Prop) (n : Nat) : (∃ k, k < n ∧ P k) → ∃ j, j < n ∧ P j ∧ ∀ k, k < j → ¬ P k := by
 induction n with
 | zero => rintro ⟨k, hk, _⟩; omega
 | succ n ih =>
  rintro ⟨k, hk, hp⟩
  by_cases h : ∃ k, k < n ∧ P k
  · obtain ⟨j, h1, h2, h3⟩ := ih h
    exact ⟨j, by omega, h2, h3⟩
  · refine ⟨k, hk, hp, fun q hq hpq => h ⟨q, by omega, hpq⟩⟩
end Go.Proofs.Ytgcgecbdmomceaa.A

namespace Go.Proofs.Ytgcgecbdmomceaa.A
open Go.RowKit Go.Proofs.YtgcgecbdmomceaaW.PrintWords Go.Proofs.YtgcgecbdmomceaaW.PrintLast Go.Proofs.YtgcgecbdmomceaaW.PrintMore
set_option linter.unusedVariables false
set_option linter.unusedSimpArgs false
end Go.Proofs.Ytgcgecbdmomceaa.A

namespace Go.Proofs.Ytgcgecbdmomceaa.A
open Go.RowKit Go.Proofs.YtgcgecbdmomceaaW.PrintWords Go.Proofs.YtgcgecbdmomceaaW.PrintLast Go.Proofs.YtgcgecbdmomceaaW.PrintMore
set_option linter.unusedVariables false
set_option linter.unusedSimpArgs false
end Go.Proofs.Ytgcgecbdmomceaa.A

namespace Go.Proofs.Ytgcgecbdmomceaa.A
open Go.RowKit Go.Proofs.YtgcgecbdmomceaaW.PrintWords Go.Proofs.YtgcgecbdmomceaaW.PrintLast Go.Proofs.YtgcgecbdmomceaaW.PrintMore
set_option linter.unusedVariables false
set_option linter.unusedSimpArgs false
end Go.Proofs.Ytgcgecbdmomceaa.A

namespace Go.Proofs.Ytgcgecbdmomceaa.A
open Go.RowKit Go.Proofs.YtgcgecbdmomceaaW.PrintWords Go.Proofs.YtgcgecbdmomceaaW.PrintLast Go.Proofs.YtgcgecbdmomceaaW.PrintMore
set_option linter.unusedVariables false
set_option linter.unusedSimpArgs false
/-! finite sums; tables with equal sums -/
def sN (n : Nat) (f : Nat → Int) : Int := ((List.range n).map f).sum
theorem sN_zero (f : Nat → Int) : sN 0 f = 0 := by simp [sN]
theorem sN_succ (n : Nat) (f : Nat → Int) : sN (n + 1) f = sN n f + f n := by
 unfold sN
 rw [List.range_succ, List.map_append, List.sum_append]
 simp
theorem sN_congr {n : Nat} {f g : Nat → Int} (h : ∀ i, i < n → f i = g i) : sN n f = sN n g := by
 unfold sN
 rw [List.map_congr_left fun i hi => h i (List.mem_range.1 hi)]
theorem sN_none (n : Nat) : sN n (fun _ => 0) = 0 := by
 induction n with
 | zero => exact sN_zero _
 | succ n ih => rw [sN_succ, ih]; omega
theorem sN_add (n : Nat) (f g : Nat → Int) : sN n (fun i => f i + g i) = sN n f + sN n g := by
 induction n with
 | zero => simp [sN_zero]
 | succ n ih => rw [sN_succ, sN_succ, sN_succ, ih]; omega
theorem sN_mul (n : Nat) (c : Int) (f : Nat → Int) : sN n (fun i => c * f i) = c * sN n f := by
 induction n with
 | zero => simp [sN_zero]
 | succ n ih => rw [sN_succ, sN_succ, ih, Int.mul_add]
theorem sN_comm (n m : Nat) (f : Nat → Nat → Int) : sN n (fun i => sN m (fun j => f i j)) = sN m (fun j => sN n (fun i => f i j)) := by
 induction n with
 | zero => rw [sN_zero, sN_congr (g := fun _ => 0) (fun j _ => sN_zero _), sN_none]
 | succ n ih => rw [sN_succ, ih, ← sN_add, sN_congr (fun j _ => sN_succ n (fun i => f i j))]
theorem sN_one {n a : Nat} (h : a < n) (v : Int) : sN n (fun b => if b = a then v else 0) = v := by
 induction n with
 | zero => omega
 | succ n ih =>
  rw [sN_succ]
  by_cases e : n = a
  · subst e
    rw [sN_congr (g := fun _ => 0) (fun i hi => if_neg (by omega)), sN_none, if_pos rfl]
    omega
  · rw [ih (by omega), if_neg e]
    omega
theorem sN_bd {n : Nat} {f : Nat → Int} {m : Int} (h : ∀ i, i < n → 0 ≤ f i ∧ f i ≤ m) : 0 ≤ sN n f ∧ sN n f ≤ m * (n : Int) := by
 induction n with
 | zero => rw [sN_zero]; omega
 | succ n ih =>
  have := ih (fun i hi => h i (by omega))
  have := h n (by omega)
  rw [sN_succ, Int.natCast_succ, Int.mul_add]
  omega
def EqT (n : Nat) (G : Nat → Nat → Int) (s : Int) : Prop := ∀ i, i < n → sN n (G i) = s ∧ sN n (fun k => G k i) = s
theorem tabG_row_sum {n : Nat} (G : Nat → Nat → Int) {i : Nat} (h : i < n) : ((tabG n G).getD i []).sum = sN n (G i) := by
 have e : i < (tabG n G).length := by rw [tabG_length]; exact h
 rw [List.getD_eq_getElem?_getD, List.getElem?_eq_getElem e, Option.getD_some, tabG_get]
 rfl
theorem tabG_col_sum {n : Nat} (G : Nat → Nat → Int) {i : Nat} (h : i < n) : ((tabG n G).map fun x => rd x (i : Int)).sum = sN n (fun k => G k i) := by
 unfold tabG sN
 rw [List.map_map]
 refine congrArg List.sum (List.map_congr_left fun k _ => ?_)
 exact rowG_at (G k) h
theorem tabG_all {n : Nat} (G : Nat → Nat → Int) (s : Int) : (List.range' 0 n).all (okI (tabG n G) s) = true ↔ EqT n G s := by
 rw [List.all_eq_true]
 constructor
 · intro h i hi
   have k := h i (by rw [List.mem_range'_1]; omega)
   unfold okI at k
   rw [tabG_row_sum G hi, tabG_col_sum G hi, Bool.and_eq_true, decide_eq_true_eq, decide_eq_true_eq] at k
   exact k
 · intro h i hi
   rw [List.mem_range'_1] at hi
   have k := h i (by omega)
   unfold okI
   rw [tabG_row_sum G (by omega), tabG_col_sum G (by omega), Bool.and_eq_true, decide_eq_true_eq, decide_eq_true_eq]
   exact k
theorem equal_of {n : Nat} {G : Nat → Nat → Int} {s : Int} (hq : squareB (tabG n G) = true) (h : EqT n G s) : equalR (tabG n G) = (s, true) := by
 have h1 := (square_tab hq).2
 rw [tabG_length] at h1
 unfold equalR
 have e : sum0 (tabG n G) = s := by
  unfold sum0
  rw [tabG_row_sum G (by omega)]
  exact (h 0 (by omega)).1
 rw [if_pos hq, e, tabG_length, if_pos ((tabG_all G s).2 h)]
theorem tab_self {l : List (List Int)} (h : squareB l = true) : tabG l.length (atG l) = l := tabG_self fun x hx => ((square_tab h).1.row x hx).1
theorem checkR_ok {u p : List (List Int)} (h : checkR u = (p, true)) : squareB u = true ∧ p = u := by
 unfold checkR at h
 split at h
 · next hq =>
   refine ⟨hq, ?_⟩
   simpa using h.symm
 · simp at h
theorem squareG {n : Nat} (h1 : 1 ≤ n) (h6 : n ≤ 6) {G : Nat → Nat → Int} (h : ∀ i j, i < n → j < n → 0 ≤ G i j ∧ G i j ≤ 1000000) : squareB (tabG n G) = true := by
 unfold squareB
 rw [Bool.and_eq_true, decide_eq_true_eq, List.all_eq_true, tabG_length]
 refine ⟨by omega, fun x hx => ?_⟩
 unfold tabG at hx
 obtain ⟨i, hi, rfl⟩ := List.mem_map.1 hx
 unfold rowB inR
 rw [Bool.and_eq_true, decide_eq_true_eq, List.all_eq_true, List.length_map, List.length_range]
 refine ⟨rfl, fun y hy => ?_⟩
 obtain ⟨j, hj, rfl⟩ := List.mem_map.1 hy
 have := h i j (List.mem_range.1 hi) (List.mem_range.1 hj)
 simp [this]
end Go.Proofs.Ytgcgecbdmomceaa.A

namespace Go.Proofs.Ytgcgecbdmomceaa.A
open Go.RowKit Go.Proofs.YtgcgecbdmomceaaW.PrintWords Go.Proofs.YtgcgecbdmomceaaW.PrintLast Go.Proofs.YtgcgecbdmomceaaW.PrintMore
set_option linter.unusedVariables false
set_option linter.unusedSimpArgs false
/-! more rows than columns: a relation over the whole numbers -/
def skipN (p k : Nat) : Nat := if k < p then k else k + 1
def unskipN (p k : Nat) : Nat := if k < p then k else k - 1
theorem unskip_skip (p k : Nat) : unskipN p (skipN p k) = k := by
 unfold unskipN skipN
 by_cases h : k < p
 · rw [if_pos h, if_pos h]
 · rw [if_neg h, if_neg (by omega)]
   omega
theorem skip_ne (p k : Nat) : skipN p k ≠ p := by
 unfold skipN
 by_cases h : k < p
 · rw [if_pos h]; omega
 · rw [if_neg h]; omega
theorem sN_skip (f : Nat → Int) : ∀ (m p : Nat), p ≤ m → sN (m + 1) f = sN m (fun k => f (skipN p k)) + f p
 | 0, p, h => by
  obtain rfl : p = 0 := by omega
  rw [sN_succ, sN_zero, sN_zero]
 | m + 1, p, h => by
  by_cases e : p = m + 1
  · subst e
    rw [sN_succ]
    congr 1
    exact sN_congr fun i hi => by
     unfold skipN
     rw [if_pos (by omega)]
  · have ih := sN_skip f m p (by omega)
    rw [sN_succ, ih, sN_succ]
    have e2 : skipN p m = m + 1 := by
     unfold skipN
     rw [if_neg (by omega)]
    rw [e2]
    omega
theorem lin_dep : ∀ (d m : Nat) (v : Nat → Nat → Int), d < m → ∃ c : Nat → Int, (∃ k, k < m ∧ c k ≠ 0) ∧ ∀ j, j < d → sN m (fun k => c k * v k j) = 0
 | 0, m, v, h => ⟨fun _ => 1, ⟨0, h, Int.one_ne_zero⟩, fun j hj => by omega⟩
 | d + 1, m, v, h => by
  by_cases hz : ∀ k, k < m → v k d = 0
  · obtain ⟨c, hc, h0⟩ := lin_dep d m v (by omega)
    refine ⟨c, hc, fun j hj => ?_⟩
    by_cases e : j = d
    · subst e
      rw [sN_congr (g := fun _ => 0) (fun k hk => by rw [hz k hk, Int.mul_zero]), sN_none]
    · exact h0 j (by omega)
  · obtain ⟨p, hp, ha⟩ : ∃ p, p < m ∧ v p d ≠ 0 := by
     refine Classical.byContradiction fun hno => hz fun k hk => ?_
     refine Classical.byContradiction fun hne => hno ⟨k, hk, hne⟩
    obtain ⟨m', rfl⟩ : ∃ m', m = m' + 1 := ⟨m - 1, by omega⟩
    obtain ⟨c, ⟨k0, hk0, hc0⟩, h0⟩ := lin_dep d m' (fun k j => v p d * v (skipN p k) j - v (skipN p k) d * v p j) (by omega)
    have key : ∀ j, sN (m' + 1) (fun k => (if k = p then -(sN m' fun k => c k * v (skipN p k) d) else v p d * c (unskipN p k)) * v k j) = sN m' (fun k => c k * (v p d * v (skipN p k) j - v (skipN p k) d * v p j)) := by
     intro j
     rw [sN_skip _ m' p (by omega), if_pos rfl]
     rw [sN_congr (g := fun k => v p d * (c k * v (skipN p k) j)) (fun k _ => by rw [if_neg (skip_ne p k), unskip_skip, Int.mul_assoc])]
     rw [sN_mul]
     have e : sN m' (fun k => c k * (v p d * v (skipN p k) j - v (skipN p k) d * v p j)) = v p d * sN m' (fun k => c k * v (skipN p k) j) + (-(v p j)) * sN m' (fun k => c k * v (skipN p k) d) := by
      rw [← sN_mul, ← sN_mul, ← sN_add]
      refine sN_congr fun k _ => ?_
      rw [Int.mul_sub]
      have e1 : c k * (v p d * v (skipN p k) j) = v p d * (c k * v (skipN p k) j) := Int.mul_left_comm _ _ _
      have e2 : c k * (v (skipN p k) d * v p j) = v p j * (c k * v (skipN p k) d) := by rw [← Int.mul_assoc, Int.mul_comm]
      rw [e1, e2, Int.neg_mul, Int.sub_eq_add_neg]
     rw [e, Int.neg_mul, Int.neg_mul, Int.mul_comm (v p j)]
    refine ⟨fun k => if k = p then -(sN m' fun k => c k * v (skipN p k) d) else v p d * c (unskipN p k), ⟨skipN p k0, ?_, ?_⟩, fun j hj => ?_⟩
    · unfold skipN
      split <;> omega
    · show (if skipN p k0 = p then _ else _) ≠ 0
      rw [if_neg (skip_ne p k0), unskip_skip]
      exact Int.mul_ne_zero ha hc0
    · rw [key j]
      by_cases e : j = d
      · subst e
        rw [sN_congr (g := fun _ => 0) (fun k _ => by rw [Int.mul_comm (v p j), Int.sub_self, Int.mul_zero]), sN_none]
      · exact h0 j (by omega)
/-- Tables that are placings, each with a place that no later one has: at most (n - 1) (n - 1) + 1 of them. -/
theorem places_few (n m : Nat) (hn : 1 ≤ n) (P : Nat → Nat → Nat → Int) (hs : ∀ k, k < m → EqT n (P k) 1) (a b : Nat → Nat) (ha : ∀ k, k < m → a k < n ∧ b k < n ∧ P k (a k) (b k) = 1) (hl : ∀ k q, k < q → q < m → P q (a k) (b k) = 0) : m ≤ (n - 1) * (n - 1) + 1 := by
 refine Classical.byContradiction fun hno => ?_
 obtain ⟨c, ⟨k0, hk0, hc0⟩, h0⟩ := lin_dep ((n - 1) * (n - 1) + 1) m (fun k j => if j = (n - 1) * (n - 1) then 1 else P k (j / (n - 1)) (j % (n - 1))) (by omega)
 -- the relation holds at every place
 have hsum : sN m c = 0 := by
  have := h0 ((n - 1) * (n - 1)) (by omega)
  rw [sN_congr (g := c) (fun k _ => by rw [if_pos rfl, Int.mul_one])] at this
  exact this
 have hblk : ∀ i j, i < n - 1 → j < n - 1 → sN m (fun k => c k * P k i j) = 0 := fun i j hi hj => by
  have hlt : i * (n - 1) + j < (n - 1) * (n - 1) := by
   have : (i + 1) * (n - 1) ≤ (n - 1) * (n - 1) := Nat.mul_le_mul_right _ (by omega)
   rw [Nat.succ_mul] at this
   omega
  have h1 : (i * (n - 1) + j) / (n - 1) = i := by
   rw [Nat.mul_comm, Nat.mul_add_div (by omega), Nat.div_eq_of_lt hj, Nat.add_zero]
  have h2 : (i * (n - 1) + j) % (n - 1) = j := by
   rw [Nat.mul_comm, Nat.mul_add_mod, Nat.mod_eq_of_lt hj]
  have := h0 (i * (n - 1) + j) (by omega)
  rw [sN_congr (g := fun k => c k * P k i j) (fun k _ => by rw [if_neg (by omega), h1, h2])] at this
  exact this
 have hrow : ∀ i, i < n → sN n (fun j => sN m (fun k => c k * P k i j)) = 0 := fun i hi => by
  rw [sN_comm, sN_congr (g := c) (fun k hk => by rw [sN_mul, ((hs k hk) i hi).1, Int.mul_one])]
  exact hsum
 have hcol : ∀ j, j < n → sN n (fun i => sN m (fun k => c k * P k i j)) = 0 := fun j hj => by
  rw [sN_comm, sN_congr (g := c) (fun k hk => by rw [sN_mul, ((hs k hk) j hj).2, Int.mul_one])]
  exact hsum
 obtain ⟨n', rfl⟩ : ∃ n', n = n' + 1 := ⟨n - 1, by omega⟩
 have e' : n' + 1 - 1 = n' := by omega
 rw [e'] at hblk
 have hlast : ∀ i, i < n' → sN m (fun k => c k * P k i n') = 0 := fun i hi => by
  have := hrow i (by omega)
  rw [sN_succ, sN_congr (g := fun _ => 0) (fun j hj => hblk i j hi hj), sN_none] at this
  omega
 have hall : ∀ i j, i < n' + 1 → j < n' + 1 → sN m (fun k => c k * P k i j) = 0 := fun i j hi hj => by
  have hin : i < n' → sN m (fun k => c k * P k i j) = 0 := fun h => by
   by_cases e : j = n'
   · rw [e]; exact hlast i h
   · exact hblk i j h (by omega)
  by_cases e : i = n'
  · have := hcol j hj
    rw [sN_succ, sN_congr (g := fun _ => 0) (fun q hq => by
     by_cases e : j = n'
     · rw [e]; exact hlast q hq
     · exact hblk q j hq (by omega)), sN_none] at this
    rw [e]
    omega
  · exact hin (by omega)
 -- the first one that has a part in it
 obtain ⟨k, hk, hck, hmin⟩ := least_lt (fun k => c k ≠ 0) m ⟨k0, hk0, hc0⟩
 have hk' := ha k hk
 have := hall (a k) (b k) hk'.1 hk'.2.1
 have e : sN m (fun q => c q * P q (a k) (b k)) = sN m (fun q => if q = k then c k else 0) := sN_congr fun q hq => by
  rcases Nat.lt_trichotomy q k with h | h | h
  · have hq0 := hmin q h
    have : c q = 0 := Classical.byContradiction hq0
    rw [this, if_neg (by omega), Int.zero_mul]
  · rw [h, if_pos rfl, hk'.2.2, Int.mul_one]
  · rw [hl k q h hq, if_neg (by omega), Int.mul_zero]
 rw [e, sN_one hk] at this
 exact hck this
end Go.Proofs.Ytgcgecbdmomceaa.A

namespace Go.Proofs.Ytgcgecbdmomceaa.A
open Go.RowKit Go.Proofs.YtgcgecbdmomceaaW.PrintWords Go.Proofs.YtgcgecbdmomceaaW.PrintLast Go.Proofs.YtgcgecbdmomceaaW.PrintMore
set_option linter.unusedVariables false
set_option linter.unusedSimpArgs false
/-! tables with equal sums: a placing is in each, and what is left has equal sums -/
theorem sN_le {n : Nat} {f g : Nat → Int} (h : ∀ i, i < n → f i ≤ g i) : sN n f ≤ sN n g := by
 induction n with
 | zero => rw [sN_zero, sN_zero]; exact Int.le_refl _
 | succ n ih =>
  have h1 := ih (fun i hi => h i (by omega))
  have h2 := h n (by omega)
  rw [sN_succ, sN_succ]
  omega
theorem sN_card (n : Nat) (S : Nat → Bool) (s : Int) : sN n (fun i => if S i = true then s else 0) = s * (cardB n S : Int) := by
 induction n with
 | zero => simp [sN_zero, cardB]
 | succ n ih =>
  have e : cardB (n + 1) S = cardB n S + (if S n = true then 1 else 0) := by
   unfold cardB
   rw [List.range_succ, List.countP_append, List.countP_singleton]
  rw [sN_succ, ih, e]
  split
  · rw [Int.natCast_add, Int.mul_add]
    simp
  · simp
theorem eq_placing {n : Nat} {G : Nat → Nat → Int} {s : Int} (h : EqT n G s) (h0 : ∀ i j, i < n → j < n → 0 ≤ G i j) (hs : 0 < s) : ∃ f : Nat → Nat, (∀ i, i < n → f i < n ∧ 0 < G i (f i)) ∧ ∀ i j, i < n → j < n → f i = f j → i = j := by
 rcases hall_or n (fun i j => decide (0 < G i j)) with ⟨f, h1, h2⟩ | ⟨S, hS⟩
 · exact ⟨f, fun i hi => ⟨(h1 i hi).1, by simpa using (h1 i hi).2⟩, h2⟩
 · exfalso
   have e1 : sN n (fun i => sN n (fun j => if S i = true then G i j else 0)) = s * (cardB n S : Int) := by
    rw [← sN_card]
    refine sN_congr fun i hi => ?_
    by_cases c : S i = true
    · rw [sN_congr (g := G i) (fun j _ => by rw [if_pos c]), if_pos c]
      exact (h i hi).1
    · rw [sN_congr (g := fun _ => 0) (fun j _ => by rw [if_neg c]), if_neg c, sN_none]
   have e2 : sN n (fun j => sN n (fun i => if nbr n (fun i j => decide (0 < G i j)) (fun _ => true) S j = true then G i j else 0)) = s * (cardB n (nbr n (fun i j => decide (0 < G i j)) (fun _ => true) S) : Int) := by
    rw [← sN_card]
    refine sN_congr fun j hj => ?_
    by_cases c : nbr n (fun i j => decide (0 < G i j)) (fun _ => true) S j = true
    · rw [sN_congr (g := fun i => G i j) (fun i _ => by rw [if_pos c]), if_pos c]
      exact (h j hj).2
    · rw [sN_congr (g := fun _ => 0) (fun i _ => by rw [if_neg c]), if_neg c, sN_none]
   have e3 : sN n (fun i => sN n (fun j => if S i = true then G i j else 0)) ≤ sN n (fun i => sN n (fun j => if nbr n (fun i j => decide (0 < G i j)) (fun _ => true) S j = true then G i j else 0)) := by
    refine sN_le fun i hi => sN_le fun j hj => ?_
    have hg := h0 i j hi hj
    by_cases c : S i = true
    · rw [if_pos c]
      by_cases c2 : 0 < G i j
      · rw [if_pos (nbr_iff.2 ⟨rfl, i, hi, c, by simpa using c2⟩)]
        exact Int.le_refl _
      · split <;> omega
    · rw [if_neg c]
      split <;> omega
   rw [sN_comm n n (fun i j => if nbr n (fun i j => decide (0 < G i j)) (fun _ => true) S j = true then G i j else 0), e1, e2] at e3
   have := Int.le_of_mul_le_mul_left e3 hs
   omega
/-- A placing as a list of columns. -/
structure Plg (n : Nat) (p : List Int) : Prop where
 len : p.length = n
 nd : p.Nodup
 bd : ∀ x ∈ p, 0 ≤ x ∧ x < (n : Int)
def ptF (p : List Int) (i j : Nat) : Int := if rd p (i : Int) = (j : Int) then 1 else 0
theorem nodup_rd {p : List Int} (h : p.Nodup) {i j : Nat} (hi : i < p.length) (hj : j < p.length) (e : rd p (i : Int) = rd p (j : Int)) : i = j := by
 rw [rdn hi, rdn hj] at e
 rcases Nat.lt_trichotomy i j with k | k | k
 · exact absurd e (List.pairwise_iff_getElem.1 h i j hi hj k)
 · exact k
 · exact absurd e.symm (List.pairwise_iff_getElem.1 h j i hj hi k)
theorem pt_eq {n : Nat} {p : List Int} (h : Plg n p) : EqT n (ptF p) 1 := by
 have hrow : ∀ i, i < n → sN n (ptF p i) = 1 := fun i hi => by
  have hip : i < p.length := by rw [h.len]; exact hi
  have hb := h.bd _ (List.getElem_mem hip)
  rw [← rdn hip] at hb
  obtain ⟨c, hc⟩ := Int.eq_ofNat_of_zero_le hb.1
  rw [sN_congr (g := fun j => if j = c then 1 else 0) (fun j _ => by
   unfold ptF
   by_cases e : j = c
   · rw [if_pos (by rw [hc, e]), if_pos e]
   · rw [if_neg (by rw [hc]; omega), if_neg e]), sN_one (by omega)]
 have hcol : ∀ j, j < n → 0 ≤ sN n (fun i => ptF p i j) ∧ sN n (fun i => ptF p i j) ≤ 1 := fun j hj => by
  by_cases hex : ∃ i, i < n ∧ rd p (i : Int) = (j : Int)
  · obtain ⟨i, hi, e⟩ := hex
    rw [sN_congr (g := fun q => if q = i then 1 else 0) (fun q hq => by
     unfold ptF
     by_cases e2 : q = i
     · rw [e2, if_pos e, if_pos rfl]
     · rw [if_neg (fun e3 => e2 (nodup_rd h.nd (by rw [h.len]; exact hq) (by rw [h.len]; exact hi) (e3.trans e.symm))), if_neg e2]), sN_one hi]
    omega
  · rw [sN_congr (g := fun _ => 0) (fun q hq => by
     unfold ptF
     rw [if_neg fun e => hex ⟨q, hq, e⟩]), sN_none]
    omega
 have htot : sN n (fun j => sN n (fun i => ptF p i j)) = (n : Int) := by
  rw [← sN_comm, sN_congr (g := fun _ => 1) (fun i hi => hrow i hi)]
  have := sN_card n (fun _ => true) 1
  rw [sN_congr (g := fun _ => 1) (fun i _ => by rw [if_pos rfl])] at this
  rw [this]
  unfold cardB
  rw [List.countP_true, List.length_range]
  omega
 have hone : ∀ (m : Nat) (f : Nat → Int), (∀ j, j < m → f j ≤ 1) → sN m f = (m : Int) → ∀ j, j < m → f j = 1 := by
  intro m
  induction m with
  | zero => intro f _ _ j hj; omega
  | succ m ih =>
   intro f hf hs j hj
   rw [sN_succ] at hs
   have h1 : sN m f ≤ (m : Int) := by
    have := sN_le (n := m) (f := f) (g := fun _ => 1) (fun i hi => hf i (by omega))
    have e := sN_card m (fun _ => true) 1
    rw [sN_congr (g := fun _ => 1) (fun i _ => by rw [if_pos rfl])] at e
    unfold cardB at e
    rw [List.countP_true, List.length_range] at e
    omega
   have h2 := hf m (by omega)
   by_cases e : j = m
   · rw [e]; omega
   · exact ih f (fun i hi => hf i (by omega)) (by omega) j (by omega)
 exact fun i hi => ⟨hrow i hi, hone n _ (fun j hj => (hcol j hj).2) htot i hi⟩
/-- What is left when c times a placing is taken away. -/
def subG (G : Nat → Nat → Int) (p : List Int) (c : Int) (i j : Nat) : Int := G i j - c * ptF p i j
theorem sub_eq {n : Nat} {G : Nat → Nat → Int} {s : Int} (h : EqT n G s) {p : List Int} (hp : Plg n p) (c : Int) : EqT n (subG G p c) (s - c) := by
 have hp := pt_eq hp
 intro i hi
 constructor
 · rw [sN_congr (g := fun j => G i j + (-c) * ptF p i j) (fun j _ => by unfold subG; rw [Int.neg_mul]; omega), sN_add, sN_mul, (h i hi).1, (hp i hi).1]
   omega
 · rw [sN_congr (g := fun j => G j i + (-c) * ptF p j i) (fun j _ => by unfold subG; rw [Int.neg_mul]; omega), sN_add, sN_mul, (h i hi).2, (hp i hi).2]
   omega
end Go.Proofs.Ytgcgecbdmomceaa.A

namespace Go.Proofs.Ytgcgecbdmomceaa.A
open Go.RowKit Go.Proofs.YtgcgecbdmomceaaW.PrintWords Go.Proofs.YtgcgecbdmomceaaW.PrintLast Go.Proofs.YtgcgecbdmomceaaW.PrintMore
set_option linter.unusedVariables false
set_option linter.unusedSimpArgs false
/-! all placings of a table, in order -/
def plc (l : List (List Int)) : Nat → List Int → List (List Int)
 | 0, p => [p]
 | m + 1, p => (List.range (rd_L2 l (p.length : Int)).length).flatMap fun (j : Nat) => if rd (rd_L2 l (p.length : Int)) (j : Int) > 0 then (if (j : Int) ∈ p then [] else plc l m (p ++ [(j : Int)])) else []
def plcAt (l : List (List Int)) (m : Nat) (p : List Int) (j : Nat) : List (List Int) := if rd (rd_L2 l (p.length : Int)) (j : Int) > 0 then (if (j : Int) ∈ p then [] else plc l m (p ++ [(j : Int)])) else []
theorem plc_succ (l : List (List Int)) (m : Nat) (p : List Int) : plc l (m + 1) p = (List.range (rd_L2 l (p.length : Int)).length).flatMap (plcAt l m p) := rfl
theorem range_drop {n i : Nat} (h : i < n) : (List.range n).drop i = i :: (List.range n).drop (i + 1) := by
 rw [List.drop_eq_getElem_cons (by simpa using h)]
 simp
/-- What is found from column i on. -/
def plcFrom (l : List (List Int)) (m : Nat) (p : List Int) (i : Nat) : List (List Int) := ((List.range (rd_L2 l (p.length : Int)).length).drop i).flatMap (plcAt l m p)
theorem plcFrom_zero (l : List (List Int)) (m : Nat) (p : List Int) : plcFrom l m p 0 = plc l (m + 1) p := by
 unfold plcFrom
 rw [List.drop_zero, plc_succ]
theorem plcFrom_end (l : List (List Int)) (m : Nat) (p : List Int) : plcFrom l m p (rd_L2 l (p.length : Int)).length = [] := by
 unfold plcFrom
 rw [List.drop_eq_nil_of_le (by simp)]
 rfl
theorem plcFrom_step (l : List (List Int)) (m : Nat) (p : List Int) {i : Nat} (h : i < (rd_L2 l (p.length : Int)).length) : plcFrom l m p i = plcAt l m p i ++ plcFrom l m p (i + 1) := by
 unfold plcFrom
 rw [range_drop h, List.flatMap_cons]
theorem take_add_take {α : Type} (a b : List α) (n : Nat) : a.take n ++ (b.take (n - (a.take n).length)) = (a ++ b).take n := by
 rw [List.take_append, List.length_take]
 congr 1
 by_cases h : n ≤ a.length
 · rw [Nat.min_eq_left h, show n - n = 0 by omega, show n - a.length = 0 by omega]
 · rw [Nat.min_eq_right (by omega)]
/-- The spec's list: the first ones. -/
theorem doPlc_ev (l : List (List Int)) (hl : l.length ≤ 6) (hr : ∀ i, i < l.length → (rd_L2 l (i : Int)).length ≤ 1000) : ∀ (m : Nat) (p : List Int) (most : Nat), p.length + m = l.length → 1 ≤ most → most ≤ 1000 → Ev (fun k => spec_doPlacings.f k l p (most : Int)) ((plc l m p).take most)
 | 0, p, most, hm, h1, h2 => by
  refine Ev.succ ?_
  simp only [spec_doPlacings.f, if_pos (show (p.length : Int) = (l.length : Int) by omega)]
  unfold spec_l1Own.f
  simp only [Option.bind_some, List.length_nil, List.nil_append, if_pos (show 0 + p.length < 17592186044416 by omega)]
  unfold plc
  rw [List.take_of_length_le (by simpa using h1)]
  exact Ev.now _
 | m + 1, p, most, hm, h1, h2 => by
  refine Ev.succ ?_
  have hp : p.length < l.length := by omega
  simp only [spec_doPlacings.f, if_neg (show ¬ (p.length : Int) = (l.length : Int) by omega), if_pos (show (0 : Int) ≤ (p.length : Int) by omega), if_pos (show (p.length : Int) < (l.length : Int) by omega)]
  have hrl := hr p.length hp
  have key : ∀ (n i : Nat) (out : List (List Int)), i + n = (rd_L2 l (p.length : Int)).length → out.length ≤ most → (out ++ plcFrom l m p i).take most = (plc l (m + 1) p).take most →
   Ev (fun k => spec_doPlacings.l0 k l p (most : Int) out (rd_L2 l (p.length : Int)) ((rd_L2 l (p.length : Int)).length : Int) (i : Int)) ((plc l (m + 1) p).take most) := by
   intro n
   induction n with
   | zero =>
    intro i out hi ho he
    have ei : i = (rd_L2 l (p.length : Int)).length := by omega
    refine Ev.succ ?_
    simp only [spec_doPlacings.l0, if_neg (show ¬ (i : Int) < ((rd_L2 l (p.length : Int)).length : Int) by omega)]
    rw [ei, plcFrom_end, List.append_nil, List.take_of_length_le ho] at he
    rw [he]
    exact Ev.now _
   | succ n ih =>
    intro i out hi ho he
    have hlt : i < (rd_L2 l (p.length : Int)).length := by omega
    have skip : plcAt l m p i = [] → Ev (fun k => spec_doPlacings.l0 k l p (most : Int) out (rd_L2 l (p.length : Int)) ((rd_L2 l (p.length : Int)).length : Int) ((i + 1 : Nat) : Int)) ((plc l (m + 1) p).take most) := by
     intro h0
     refine ih (i + 1) out (by omega) ho ?_
     rw [plcFrom_step l m p hlt, h0, List.nil_append] at he
     exact he
    refine Ev.succ ?_
    simp only [spec_doPlacings.l0, if_pos (show (i : Int) < ((rd_L2 l (p.length : Int)).length : Int) by omega), if_pos (show (0 : Int) ≤ (i : Int) by omega)]
    by_cases c1 : rd (rd_L2 l (p.length : Int)) (i : Int) > 0
    · simp only [if_pos c1]
      refine Ev.bind (l1Has_ev p (i : Int) (by omega)) ?_
      by_cases c2 : (i : Int) ∈ p
      · simp only [decide_eq_true c2, if_true]
        refine Ev.succ ?_
        simp only [spec_doPlacings.j1, Bool.false_eq_true, if_false, wsucc hlt (by omega)]
        exact skip (by unfold plcAt; rw [if_pos c1, if_pos c2])
      · simp only [decide_eq_false c2, Bool.false_eq_true, if_false]
        refine Ev.succ ?_
        simp only [spec_doPlacings.j1, decide_eq_true_eq]
        by_cases c3 : (out.length : Int) < (most : Int)
        · simp only [if_pos c3]
          unfold spec_l1Own.f
          simp only [Option.bind_some, List.length_nil, List.nil_append, if_pos (show 0 + p.length < 17592186044416 by omega), if_pos (show p.length < 17592186044416 by omega), w64 (x := (most : Int) - (out.length : Int)) (by omega) (by omega)]
          rw [show (most : Int) - (out.length : Int) = ((most - out.length : Nat) : Int) by omega]
          refine Ev.bind (doPlc_ev l hl hr m (p ++ [(i : Int)]) (most - out.length) (by rw [List.length_append]; simp; omega) (by omega) (by omega)) ?_
          have hlen : ((plc l m (p ++ [(i : Int)])).take (most - out.length)).length ≤ most - out.length := by rw [List.length_take]; omega
          simp only [if_pos (show out.length + ((plc l m (p ++ [(i : Int)])).take (most - out.length)).length < 5864062014805 by omega), wsucc hlt (by omega)]
          refine ih (i + 1) _ (by omega) (by rw [List.length_append]; omega) ?_
          have e1 : out.take most = out := List.take_of_length_le ho
          have e2 : plcAt l m p i = plc l m (p ++ [(i : Int)]) := by unfold plcAt; rw [if_pos c1, if_neg c2]
          have e3 : out ++ (plc l m (p ++ [(i : Int)])).take (most - out.length) = (out ++ plcAt l m p i).take most := by
           rw [e2, ← take_add_take, e1]
          rw [e3, ← he, plcFrom_step l m p hlt, ← List.append_assoc]
          generalize out ++ plcAt l m p i = a
          rw [List.take_append, List.take_append, List.take_take, Nat.min_self, List.length_take]
          congr 1
          by_cases h : most ≤ a.length
          · rw [Nat.min_eq_left h, show most - most = 0 by omega, show most - a.length = 0 by omega]
          · rw [Nat.min_eq_right (by omega)]
        · simp only [if_neg c3, wsucc hlt (by omega)]
          refine ih (i + 1) out (by omega) ho ?_
          have e : out.length = most := by omega
          rw [← he, List.take_append, List.take_append, show most - out.length = 0 by omega, List.take_zero, List.take_zero]
    · simp only [if_neg c1]
      refine Ev.succ ?_
      simp only [spec_doPlacings.j1, Bool.false_eq_true, if_false, wsucc hlt (by omega)]
      exact skip (by unfold plcAt; rw [if_neg c1])
  have := key (rd_L2 l (p.length : Int)).length 0 [] (by omega) (by simp) (by rw [plcFrom_zero, List.nil_append])
  exact this
/-- The visits of the search, by the list. -/
theorem dfs_first (l : List (List Int)) : ∀ (m : Nat) (o : Option (List Int)) (p : List Int), dfs l firstStep m o p = match plc l m p with | [] => (o, true) | q :: _ => (some q, false)
 | 0, o, p => rfl
 | m + 1, o, p => by
  have key : ∀ (n i : Nat) (o : Option (List Int)), i + n = (rd_L2 l (p.length : Int)).length → loopB (fun s j => if rd (rd_L2 l (p.length : Int)) (j : Int) > 0 then (if (j : Int) ∈ p then (s, true) else dfs l firstStep m s (p ++ [(j : Int)])) else (s, true)) ((List.range (rd_L2 l (p.length : Int)).length).drop i) o = match plcFrom l m p i with | [] => (o, true) | q :: _ => (some q, false) := by
   intro n
   induction n with
   | zero =>
    intro i o hi
    have ei : i = (rd_L2 l (p.length : Int)).length := by omega
    rw [ei, loopB_end, plcFrom_end]
   | succ n ih =>
    intro i o hi
    have hlt : i < (rd_L2 l (p.length : Int)).length := by omega
    rw [loopB_at _ _ hlt, plcFrom_step l m p hlt]
    unfold plcAt
    by_cases c1 : rd (rd_L2 l (p.length : Int)) (i : Int) > 0
    · by_cases c2 : (i : Int) ∈ p
      · simp only [if_pos c1, if_pos c2, if_true, List.nil_append]
        exact ih (i + 1) o (by omega)
      · simp only [if_pos c1, if_neg c2]
        rw [dfs_first l m o (p ++ [(i : Int)])]
        cases plc l m (p ++ [(i : Int)]) with
        | nil => exact ih (i + 1) o (by omega)
        | cons q t => rfl
    · simp only [if_neg c1, if_true, List.nil_append]
      exact ih (i + 1) o (by omega)
  have := key (rd_L2 l (p.length : Int)).length 0 o (by omega)
  rw [List.drop_zero, plcFrom_zero] at this
  exact this
theorem firstP_eq (l : List (List Int)) : firstP l = (plc l l.length []).head? := by
 unfold firstP
 rw [dfs_first]
 cases plc l l.length [] <;> rfl
end Go.Proofs.Ytgcgecbdmomceaa.A

namespace Go.Proofs.Ytgcgecbdmomceaa.A
open Go.RowKit Go.Proofs.YtgcgecbdmomceaaW.PrintWords Go.Proofs.YtgcgecbdmomceaaW.PrintLast Go.Proofs.YtgcgecbdmomceaaW.PrintMore
set_option linter.unusedVariables false
set_option linter.unusedSimpArgs false
/-! the parts of a table with equal sums -/
def minF (f : Nat → Int) : Nat → Int → Int
 | 0, a => a
 | n + 1, a => min (minF f n a) (f n)
theorem minF_bd (f : Nat → Int) (a : Int) : ∀ n : Nat, minF f n a ≤ a ∧ (∀ i, i < n → minF f n a ≤ f i) ∧ (minF f n a = a ∨ ∃ i, i < n ∧ minF f n a = f i)
 | 0 => ⟨Int.le_refl _, fun i hi => by omega, .inl rfl⟩
 | n + 1 => by
  obtain ⟨h1, h2, h3⟩ := minF_bd f a n
  unfold minF
  refine ⟨by omega, fun i hi => ?_, ?_⟩
  · by_cases e : i = n
    · rw [e]; omega
    · have := h2 i (by omega)
      omega
  · by_cases c : minF f n a ≤ f n
    · rw [Int.min_eq_left c]
      rcases h3 with h | ⟨i, hi, h⟩
      · exact .inl h
      · exact .inr ⟨i, by omega, h⟩
    · rw [Int.min_eq_right (by omega)]
      exact .inr ⟨n, by omega, rfl⟩
def entP (l : List (List Int)) (p : List Int) (i : Nat) : Int := atG l i (rd p (i : Int)).toNat
def lstP (l : List (List Int)) (p : List Int) : Int := minF (entP l p) p.length 1000000
def subT (l : List (List Int)) (p : List Int) (c : Int) : List (List Int) := tabG l.length (subG (atG l) p c)
structure Lft (n : Nat) (l : List (List Int)) (s : Int) : Prop where
 len : l.length = n
 n1 : 1 ≤ n
 n6 : n ≤ 6
 row : ∀ i, i < n → (rd_L2 l (i : Int)).length = n
 bd : ∀ i j, i < n → j < n → 0 ≤ atG l i j ∧ atG l i j ≤ 1000000
 eq : EqT n (atG l) s
structure PlgIn (n : Nat) (l : List (List Int)) (p : List Int) : Prop where
 len : p.length = n
 nd : p.Nodup
 bd : ∀ x ∈ p, 0 ≤ x ∧ x < (n : Int)
 pos : ∀ i, i < n → 0 < entP l p i
theorem PlgIn.plg {n : Nat} {l : List (List Int)} {p : List Int} (h : PlgIn n l p) : Plg n p := ⟨h.len, h.nd, h.bd⟩
theorem rd_snoc {p : List Int} {x : Int} {i : Nat} (h : i < p.length + 1) : rd (p ++ [x]) (i : Int) = if i < p.length then rd p (i : Int) else x := by
 rw [rdn (by rw [List.length_append, List.length_singleton]; exact h), List.getElem_append]
 by_cases c : i < p.length
 · rw [dif_pos c, if_pos c, rdn c]
 · rw [dif_neg c, if_neg c, List.getElem_singleton]
theorem plc_good {n : Nat} {l : List (List Int)} (hl : l.length = n) (hr : ∀ i, i < n → (rd_L2 l (i : Int)).length = n) : ∀ (m : Nat) (p q : List Int), p.length + m = n → p.Nodup → (∀ x ∈ p, 0 ≤ x ∧ x < (n : Int)) → (∀ i, i < p.length → 0 < entP l p i) → q ∈ plc l m p → PlgIn n l q
 | 0, p, q, hm, h1, h2, h3, hq => by
  have : q = p := by simpa [plc] using hq
  rw [this]
  exact ⟨by omega, h1, h2, fun i hi => h3 i (by omega)⟩
 | m + 1, p, q, hm, h1, h2, h3, hq => by
  rw [plc_succ] at hq
  obtain ⟨j, hj, hq⟩ := List.mem_flatMap.1 hq
  rw [List.mem_range, hr _ (by omega)] at hj
  unfold plcAt at hq
  split at hq
  · next hpos =>
    split at hq
    · simp at hq
    · next hne =>
      refine plc_good hl hr m (p ++ [(j : Int)]) q (by rw [List.length_append, List.length_singleton]; omega) ?_ ?_ ?_ hq
      · refine List.nodup_append.2 ⟨h1, List.pairwise_singleton _ _, fun a ha b hb e => ?_⟩
        rw [List.mem_singleton.1 hb] at e
        exact hne (e ▸ ha)
      · intro x hx
        rcases List.mem_append.1 hx with hx | hx
        · exact h2 x hx
        · rw [List.mem_singleton.1 hx]
          omega
      · intro i hi
        rw [List.length_append, List.length_singleton] at hi
        unfold entP
        rw [rd_snoc hi]
        by_cases c : i < p.length
        · rw [if_pos c]
          exact h3 i c
        · rw [if_neg c]
          have e : i = p.length := by omega
          rw [e, Int.toNat_natCast]
          exact hpos
  · simp at hq
theorem plc_has {n : Nat} {l : List (List Int)} (hr : ∀ i, i < n → (rd_L2 l (i : Int)).length = n) (f : Nat → Nat) (hf : ∀ i, i < n → f i < n ∧ 0 < atG l i (f i)) (hinj : ∀ i j, i < n → j < n → f i = f j → i = j) : ∀ (m i : Nat), i + m = n → (List.range n).map (fun k => (f k : Int)) ∈ plc l m ((List.range i).map fun k => (f k : Int))
 | 0, i, e => by
  have : i = n := by omega
  rw [this]
  simp [plc]
 | m + 1, i, e => by
  have ih := plc_has hr f hf hinj m (i + 1) (by omega)
  rw [List.range_succ, List.map_append] at ih
  have hlen : ((List.range i).map fun k => (f k : Int)).length = i := by simp
  rw [plc_succ, List.mem_flatMap]
  refine ⟨f i, ?_, ?_⟩
  · rw [List.mem_range, hlen, hr i (by omega)]
    exact (hf i (by omega)).1
  · unfold plcAt
    rw [hlen, if_pos (show rd (rd_L2 l (i : Int)) ((f i : Nat) : Int) > 0 from (hf i (by omega)).2)]
    rw [if_neg ?_]
    · exact ih
    · intro hm
      obtain ⟨k, hk, hkf⟩ := List.mem_map.1 hm
      rw [List.mem_range] at hk
      have := hinj k i (by omega) (by omega) (by omega)
      omega
theorem lft_plc {n : Nat} {l : List (List Int)} {s : Int} (h : Lft n l s) (hs : 0 < s) : ∃ p r, plc l n [] = p :: r ∧ PlgIn n l p := by
 obtain ⟨f, h1, h2⟩ := eq_placing h.eq (fun i j hi hj => (h.bd i j hi hj).1) hs
 have hm := plc_has h.row f h1 h2 n 0 (by omega)
 rw [List.range_zero, List.map_nil] at hm
 cases e : plc l n [] with
 | nil =>
  rw [e] at hm
  simp at hm
 | cons p r => exact ⟨p, r, rfl, plc_good h.len h.row n [] p (by simp) List.nodup_nil (by simp) (fun i hi => by simp at hi) (by rw [e]; exact List.mem_cons_self)⟩
theorem plg_rd {n : Nat} {p : List Int} (h : Plg n p) {i : Nat} (hi : i < n) : ∃ c : Nat, c < n ∧ rd p (i : Int) = (c : Int) := by
 have hip : i < p.length := by rw [h.len]; exact hi
 have hb := h.bd _ (List.getElem_mem hip)
 rw [← rdn hip] at hb
 exact ⟨(rd p (i : Int)).toNat, by omega, by omega⟩
theorem lst_bd {n : Nat} {l : List (List Int)} {s : Int} (h : Lft n l s) {p : List Int} (hp : PlgIn n l p) : 1 ≤ lstP l p ∧ (∀ i, i < n → lstP l p ≤ entP l p i) ∧ ∃ i, i < n ∧ lstP l p = entP l p i := by
 unfold lstP
 rw [hp.len]
 have hn := h.n1
 obtain ⟨h1, h2, h3⟩ := minF_bd (entP l p) 1000000 n
 have hex : ∃ i, i < n ∧ minF (entP l p) n 1000000 = entP l p i := by
  rcases h3 with h3 | h3
  · obtain ⟨c, hc, e⟩ := plg_rd hp.plg (show 0 < n by omega)
    have hb := (h.bd 0 c (by omega) hc).2
    have k := h2 0 (by omega)
    have e2 : entP l p 0 = atG l 0 c := by
     unfold entP
     rw [e, Int.toNat_natCast]
    exact ⟨0, by omega, by omega⟩
  · exact h3
 refine ⟨?_, h2, hex⟩
 obtain ⟨i, hi, e⟩ := hex
 have := hp.pos i hi
 omega
theorem subG_bd {n : Nat} {l : List (List Int)} {s : Int} (h : Lft n l s) {p : List Int} (hp : PlgIn n l p) {i j : Nat} (hi : i < n) (hj : j < n) : 0 ≤ subG (atG l) p (lstP l p) i j ∧ subG (atG l) p (lstP l p) i j ≤ atG l i j := by
 obtain ⟨h1, h2, _⟩ := lst_bd h hp
 have hb := h.bd i j hi hj
 unfold subG ptF
 by_cases c : rd p (i : Int) = (j : Int)
 · rw [if_pos c, Int.mul_one]
   have := h2 i hi
   unfold entP at this
   rw [c, Int.toNat_natCast] at this
   omega
 · rw [if_neg c, Int.mul_zero]
   omega
theorem lft_step {n : Nat} {l : List (List Int)} {s : Int} (h : Lft n l s) {p : List Int} (hp : PlgIn n l p) : Lft n (subT l p (lstP l p)) (s - lstP l p) := by
 have e : subT l p (lstP l p) = tabG n (subG (atG l) p (lstP l p)) := by
  unfold subT
  rw [h.len]
 rw [e]
 refine ⟨tabG_length _ _, h.n1, h.n6, fun i hi => tabG_rowlen _ hi, fun i j hi hj => ?_, ?_⟩
 · rw [atG_tab _ hi hj]
   have h1 := subG_bd h hp hi hj
   have h2 := h.bd i j hi hj
   omega
 · have := sub_eq h.eq hp.plg (lstP l p)
   intro i hi
   rw [sN_congr (g := subG (atG l) p (lstP l p) i) (fun j hj => atG_tab _ hi hj), sN_congr (g := fun k => subG (atG l) p (lstP l p) k i) (fun j hj => atG_tab _ hj hi)]
   exact this i hi
theorem lft_sum {n : Nat} {l : List (List Int)} {s : Int} (h : Lft n l s) : 0 ≤ s ∧ s ≤ 6000000 := by
 have hn := h.n1
 have h6 := h.n6
 have := sN_bd (n := n) (f := atG l 0) (m := 1000000) (fun j hj => h.bd 0 j (by omega) hj)
 rw [(h.eq 0 (by omega)).1] at this
 omega
/-- The greedy parts: the first placing, as often as it can be taken. -/
def partsL : Nat → List (List Int) → List (List Int × Int)
 | 0, _ => []
 | k + 1, l => if 0 < sum0 l then (match plc l l.length [] with
  | [] => []
  | p :: _ => (p, lstP l p) :: partsL k (subT l p (lstP l p))) else []
theorem lft_sum0 {n : Nat} {l : List (List Int)} {s : Int} (h : Lft n l s) : sum0 l = s := by
 have hn := h.n1
 have h0 : 0 < l.length := by rw [h.len]; omega
 rw [sum0_at h0, ← (h.eq 0 (by omega)).1]
 have e : l[0] = (List.range n).map (atG l 0) := by
  have hr := h.row 0 (by omega)
  have e2 : rd_L2 l ((0 : Nat) : Int) = l[0] := rd_L1n h0
  rw [e2] at hr
  apply List.ext_getElem
  · simp [hr]
  · intro j h3 h4
    simp only [List.getElem_map, List.getElem_range]
    unfold atG
    rw [e2, rdn h3]
 rw [e]
 rfl
theorem parts_zero {n : Nat} : ∀ (k : Nat) {l : List (List Int)} {s : Int}, Lft n l s → ∀ a b, a < n → b < n → atG l a b = 0 → ∀ x ∈ partsL k l, ptF x.1 a b = 0
 | 0, l, s, h, a, b, ha, hb, h0, x, hx => by simp [partsL] at hx
 | k + 1, l, s, h, a, b, ha, hb, h0, x, hx => by
  unfold partsL at hx
  rw [lft_sum0 h, h.len] at hx
  split at hx
  · next hs =>
    obtain ⟨p, r, e, hp⟩ := lft_plc h hs
    rw [e] at hx
    have hno : ptF p a b = 0 := by
     unfold ptF
     refine if_neg fun c => ?_
     have := hp.pos a ha
     unfold entP at this
     rw [c, Int.toNat_natCast, h0] at this
     omega
    rcases List.mem_cons.1 hx with hx | hx
    · rw [hx]
      exact hno
    · refine parts_zero k (lft_step h hp) a b ha hb ?_ x hx
      unfold subT
      rw [h.len, atG_tab _ ha hb]
      unfold subG
      rw [h0, hno]
      omega
  · simp at hx
theorem parts_all {n : Nat} : ∀ (k : Nat) {l : List (List Int)} {s : Int}, Lft n l s → s ≤ (k : Int) → (∀ x ∈ partsL k l, Plg n x.1 ∧ 1 ≤ x.2 ∧ x.2 ≤ 1000000) ∧ ((partsL k l).map Prod.snd).sum = s ∧ (∀ i j, i < n → j < n → ((partsL k l).map fun x => x.2 * ptF x.1 i j).sum = atG l i j) ∧ ((partsL k l).length : Int) ≤ s ∧ ∃ K : List (Nat × Nat), K.length = (partsL k l).length ∧ ∀ (m : Nat) (h1 : m < K.length) (h2 : m < (partsL k l).length), K[m].1 < n ∧ K[m].2 < n ∧ ptF (partsL k l)[m].1 K[m].1 K[m].2 = 1 ∧ ∀ (q : Nat) (h3 : q < (partsL k l).length), m < q → ptF (partsL k l)[q].1 K[m].1 K[m].2 = 0
 | 0, l, s, h, hk => by
  have h0 := lft_sum h
  have hs : s = 0 := by omega
  subst hs
  refine ⟨by simp [partsL], by simp [partsL], fun i j hi hj => ?_, by simp [partsL], [], rfl, fun m h1 => by simp at h1⟩
  have e := (h.eq i hi).1
  have hz : atG l i j = 0 := by
   have hb := h.bd i j hi hj
   have h1 : sN n (fun q => if q = j then atG l i j else 0) ≤ sN n (atG l i) := sN_le fun q hq => by
    by_cases c : q = j
    · rw [if_pos c, c]; exact Int.le_refl _
    · rw [if_neg c]; exact (h.bd i q hi hq).1
   rw [sN_one hj, e] at h1
   omega
  rw [hz]
  simp [partsL]
 | k + 1, l, s, h, hk => by
  have h0 := lft_sum h
  by_cases hs : 0 < s
  · obtain ⟨p, r, e, hp⟩ := lft_plc h hs
    obtain ⟨c1, c2, a, ha, c3⟩ := lst_bd h hp
    have hst := lft_step h hp
    have h0' := lft_sum hst
    have hP : partsL (k + 1) l = (p, lstP l p) :: partsL k (subT l p (lstP l p)) := by
     rw [partsL, lft_sum0 h, if_pos hs, h.len, e]
    obtain ⟨i1, i2, i3, i4, K, k1, k2⟩ := parts_all k hst (by omega)
    rw [hP]
    obtain ⟨b, hb, eb⟩ := plg_rd hp.plg ha
    have hcb : lstP l p ≤ 1000000 := by
     rw [c3]
     unfold entP
     rw [eb, Int.toNat_natCast]
     exact (h.bd a b ha hb).2
    refine ⟨fun x hx => ?_, by rw [List.map_cons, List.sum_cons, i2]; omega, fun i j hi hj => ?_, by rw [List.length_cons]; omega, (a, b) :: K, by rw [List.length_cons, List.length_cons, k1], fun m h1 h2 => ?_⟩
    · rcases List.mem_cons.1 hx with hx | hx
      · rw [hx]
        exact ⟨hp.plg, c1, hcb⟩
      · exact i1 x hx
    · rw [List.map_cons, List.sum_cons, i3 i j hi hj]
      unfold subT
      rw [h.len, atG_tab _ hi hj]
      unfold subG
      show lstP l p * ptF p i j + (atG l i j - lstP l p * ptF p i j) = atG l i j
      omega
    · cases m with
      | zero =>
       refine ⟨ha, hb, ?_, fun q h3 hq => ?_⟩
       · show ptF p a b = 1
         unfold ptF
         rw [if_pos eb]
       · obtain ⟨q', rfl⟩ : ∃ q', q = q' + 1 := ⟨q - 1, by omega⟩
         simp only [List.getElem_cons_succ, List.getElem_cons_zero]
         refine parts_zero k hst a b ha hb ?_ _ (List.getElem_mem _)
         unfold subT
         rw [h.len, atG_tab _ ha hb]
         unfold subG ptF
         rw [if_pos eb, c3]
         unfold entP
         rw [eb, Int.toNat_natCast]
         omega
      | succ m =>
       rw [List.length_cons] at h1 h2
       obtain ⟨u1, u2, u3, u4⟩ := k2 m (by omega) (by omega)
       simp only [List.getElem_cons_succ]
       refine ⟨u1, u2, u3, fun q h3 hq => ?_⟩
       obtain ⟨q', rfl⟩ : ∃ q', q = q' + 1 := ⟨q - 1, by omega⟩
       rw [List.length_cons] at h3
       simp only [List.getElem_cons_succ]
       exact u4 q' (by omega) (by omega)
  · have hs0 : s = 0 := by omega
    subst hs0
    have hP : partsL (k + 1) l = [] := by
     rw [partsL, lft_sum0 h, if_neg (by omega)]
    rw [hP]
    refine ⟨by simp, by simp, fun i j hi hj => ?_, by simp, [], rfl, fun m h1 => by simp at h1⟩
    have e := (h.eq i hi).1
    have hb := h.bd i j hi hj
    have h1 : sN n (fun q => if q = j then atG l i j else 0) ≤ sN n (atG l i) := sN_le fun q hq => by
     by_cases c : q = j
     · rw [if_pos c, c]; exact Int.le_refl _
     · rw [if_neg c]; exact (h.bd i q hi hq).1
    rw [sN_one hj, e] at h1
    show ([] : List Int).sum = _
    rw [List.sum_nil]
    omega
theorem parts_few {n : Nat} {k : Nat} {l : List (List Int)} {s : Int} (h : Lft n l s) (hk : s ≤ (k : Int)) : (partsL k l).length ≤ (n - 1) * (n - 1) + 1 := by
 obtain ⟨i1, _, _, _, K, k1, k2⟩ := parts_all k h hk
 refine places_few n (partsL k l).length h.n1 (fun m => ptF ((partsL k l).getD m ([], 0)).1) (fun m hm => ?_) (fun m => (K.getD m (0, 0)).1) (fun m => (K.getD m (0, 0)).2) (fun m hm => ?_) (fun m q hmq hq => ?_)
 · rw [List.getD_eq_getElem?_getD, List.getElem?_eq_getElem hm, Option.getD_some]
   exact pt_eq (i1 _ (List.getElem_mem hm)).1
 · have hK : m < K.length := by omega
   rw [List.getD_eq_getElem?_getD, List.getD_eq_getElem?_getD, List.getElem?_eq_getElem hm, List.getElem?_eq_getElem hK, Option.getD_some, Option.getD_some]
   obtain ⟨u1, u2, u3, _⟩ := k2 m hK hm
   exact ⟨u1, u2, u3⟩
 · have hm : m < (partsL k l).length := by omega
   have hK : m < K.length := by omega
   rw [List.getD_eq_getElem?_getD, List.getD_eq_getElem?_getD, List.getElem?_eq_getElem hq, List.getElem?_eq_getElem hK, Option.getD_some, Option.getD_some]
   exact (k2 m hK hm).2.2.2 q hq hmq
end Go.Proofs.Ytgcgecbdmomceaa.A

namespace Go.Proofs.Ytgcgecbdmomceaa.A
open Go.RowKit Go.Proofs.YtgcgecbdmomceaaW.PrintWords Go.Proofs.YtgcgecbdmomceaaW.PrintLast Go.Proofs.YtgcgecbdmomceaaW.PrintMore
set_option linter.unusedVariables false
set_option linter.unusedSimpArgs false
theorem doSum_ev {l : List (List Int)} (hT : Tab l) (h1 : 1 ≤ l.length) : Ev (fun k => spec_doSum.f k l) (if (List.range' 0 l.length).all (okI l (sum0 l)) = true then sum0 l else -1) := by
 unfold spec_doSum.f
 simp only [if_pos (show (0 : Int) < (l.length : Int) by omega)]
 have e : rd_L2 l 0 = l[0] := rd_L1n (i := 0) (by omega)
 rw [e]
 refine Ev.bind (liSumB_ev l[0] (tab_bg hT (List.getElem_mem (by omega)))) ?_
 rw [← sum0_at (by omega)]
 exact specSum_l0 hT (sum0 l) l.length 0 (by omega)
theorem equalSum_ev {l : List (List Int)} (hT : Tab l) (h1 : 1 ≤ l.length) : Ev (fun k => impl_equalSum.f k l) (if (List.range' 0 l.length).all (okI l (sum0 l)) = true then (sum0 l, true) else (0, false)) := by
 unfold impl_equalSum.f
 simp only [if_pos (show (0 : Int) < (l.length : Int) by omega)]
 have e : rd_L2 l 0 = l[0] := rd_L1n (i := 0) (by omega)
 rw [e]
 refine Ev.bind (totalB_ev l[0] (tab_bg hT (List.getElem_mem (by omega)))) ?_
 rw [← sum0_at (by omega)]
 exact implSum_l0 hT (sum0 l) l.length 0 (by omega)
end Go.Proofs.Ytgcgecbdmomceaa.A

namespace Go.Proofs.Ytgcgecbdmomceaa.A
open Go.RowKit Go.Proofs.YtgcgecbdmomceaaW.PrintWords Go.Proofs.YtgcgecbdmomceaaW.PrintLast Go.Proofs.YtgcgecbdmomceaaW.PrintMore
set_option linter.unusedVariables false
set_option linter.unusedSimpArgs false
theorem l1Own_eq (l : List Int) (hx : l.length ≤ 1048576) : spec_l1Own.f l = some l := by
 unfold spec_l1Own.f
 simp only [Option.bind_some, List.nil_append, List.length_nil, Nat.zero_add, if_pos (show l.length < 17592186044416 by omega)]
end Go.Proofs.Ytgcgecbdmomceaa.A

namespace Go.Proofs.Ytgcgecbdmomceaa.A
open Go.RowKit Go.Proofs.YtgcgecbdmomceaaW.PrintWords Go.Proofs.YtgcgecbdmomceaaW.PrintLast Go.Proofs.YtgcgecbdmomceaaW.PrintMore
set_option linter.unusedVariables false
set_option linter.unusedSimpArgs false
/-! what one round of PartsOf does to a table with equal sums -/
theorem parts_ok {n : Nat} {l : List (List Int)} {s : Int} (h : Lft n l s) {p : List Int} (hp : Plg n p) {i : Nat} (hi : i < n) : pOk l p i = true := by
 obtain ⟨c, hc, e⟩ := plg_rd hp hi
 unfold pOk
 rw [decide_eq_true_eq, h.len, h.row i hi, e]
 omega
theorem parts_ent {n : Nat} {l : List (List Int)} {p : List Int} (hp : Plg n p) {i : Nat} (hi : i < n) : pEnt l p i = entP l p i := by
 obtain ⟨c, hc, e⟩ := plg_rd hp hi
 unfold pEnt entP atG
 rw [e, Int.toNat_natCast]
theorem least_run {n : Nat} {l : List (List Int)} {s : Int} (h : Lft n l s) {p : List Int} (hp : Plg n p) (a : Int) : ∀ d i : Nat, i + d = n → pLeast l p d i (minF (entP l p) i a) = some (minF (entP l p) n a)
 | 0, i, e => by
  have : i = n := by omega
  rw [this]
  rfl
 | d + 1, i, e => by
  unfold pLeast
  rw [if_pos (parts_ok h hp (show i < n by omega)), parts_ent hp (show i < n by omega)]
  exact least_run h hp a d (i + 1) (by omega)
theorem least_impl {n : Nat} {l : List (List Int)} {s : Int} (h : Lft n l s) {p : List Int} (hp : PlgIn n l p) : pLeast l p p.length 0 1000000 = some (lstP l p) := by
 unfold lstP
 rw [hp.len]
 exact least_run h hp.plg 1000000 n 0 (by omega)
theorem least_spec {n : Nat} {l : List (List Int)} {s : Int} (h : Lft n l s) {p : List Int} (hp : PlgIn n l p) : pLeast l p p.length 0 (pEnt l p 0) = some (lstP l p) := by
 have hn := h.n1
 obtain ⟨b1, b2, i0, hi0, b3⟩ := lst_bd h hp
 obtain ⟨c1, c2, c3⟩ := minF_bd (entP l p) (pEnt l p 0) n
 have e0 := parts_ent (l := l) hp.plg (show 0 < n by omega)
 have e : minF (entP l p) n (pEnt l p 0) = lstP l p := by
  have k1 := c2 i0 hi0
  rcases c3 with c3 | ⟨i, hi, c3⟩
  · have := b2 0 (by omega)
    omega
  · have := b2 i hi
    omega
 rw [hp.len, ← e]
 exact least_run h hp.plg (pEnt l p 0) n 0 (by omega)
def partG (l : List (List Int)) (p : List Int) (c : Int) (i a b : Nat) : Int := if a < i then subG (atG l) p c a b else atG l a b
theorem sub_run {n : Nat} {l : List (List Int)} {s : Int} (h : Lft n l s) {p : List Int} (hp : PlgIn n l p) : ∀ d i : Nat, i + d = n → pSub p (lstP l p) d i (tabG n (partG l p (lstP l p) i)) = some (tabG n (subG (atG l) p (lstP l p)))
 | 0, i, e => by
  have : i = n := by omega
  rw [this]
  show some _ = some _
  rw [tabG_congr (fun a b ha hb => by unfold partG; rw [if_pos ha])]
 | d + 1, i, e => by
  have hi : i < n := by omega
  obtain ⟨c, hc, ec⟩ := plg_rd hp.plg hi
  have hb := h.bd i c hi hc
  obtain ⟨b1, b2, _⟩ := lst_bd h hp
  have b2 := b2 i hi
  have e1 : entP l p i = atG l i c := by
   unfold entP
   rw [ec, Int.toNat_natCast]
  have ok : pOk (tabG n (partG l p (lstP l p) i)) p i = true := by
   unfold pOk
   rw [decide_eq_true_eq, tabG_length, tabG_rowlen _ hi, ec]
   omega
  have en : pEnt (tabG n (partG l p (lstP l p) i)) p i = atG l i c := by
   unfold pEnt
   rw [ec, tabG_at _ hi hc]
   unfold partG
   rw [if_neg (by omega)]
  unfold pSub
  rw [if_pos ok, en, ec, Int.toNat_natCast, tabG_set _ _ _ hi, w64 (by omega) (by omega)]
  rw [tabG_congr (G' := partG l p (lstP l p) (i + 1)) (fun a b ha hb => ?_)]
  · exact sub_run h hp d (i + 1) (by omega)
  · unfold updG partG subG ptF
    by_cases ca : a = i
    · subst ca
      rw [if_pos (show a < a + 1 by omega), if_neg (show ¬ a < a by omega), ec]
      by_cases cb : b = c
      · subst cb
        rw [if_pos ⟨rfl, rfl⟩, if_pos rfl]
        omega
      · rw [if_neg (fun x => cb x.2), if_neg (fun x : (c : Int) = (b : Int) => cb (by omega))]
        omega
    · rw [if_neg (fun x => ca x.1)]
      by_cases cl : a < i
      · rw [if_pos (show a < i + 1 by omega), if_pos cl]
      · rw [if_neg (show ¬ a < i + 1 by omega), if_neg cl]
theorem lft_tab {n : Nat} {l : List (List Int)} {s : Int} (h : Lft n l s) : tabG n (atG l) = l := by
 have := tabG_self (l := l) (fun x hx => by
  obtain ⟨i, hi, rfl⟩ := List.getElem_of_mem hx
  rw [h.len] at hi
  have k := h.row i hi
  rw [rd_L1n (by rw [h.len]; exact hi)] at k
  rw [k, h.len])
 rw [h.len] at this
 exact this
theorem sub_all {n : Nat} {l : List (List Int)} {s : Int} (h : Lft n l s) {p : List Int} (hp : PlgIn n l p) : pSub p (lstP l p) p.length 0 l = some (subT l p (lstP l p)) := by
 have k := sub_run h hp n 0 (by omega)
 rw [tabG_congr (G' := atG l) (fun a b ha hb => by unfold partG; rw [if_neg (by omega)]), lft_tab h] at k
 unfold subT
 rw [h.len, hp.len]
 exact k
end Go.Proofs.Ytgcgecbdmomceaa.A

namespace Go.Proofs.Ytgcgecbdmomceaa.A
open Go.RowKit Go.Proofs.YtgcgecbdmomceaaW.PrintWords Go.Proofs.YtgcgecbdmomceaaW.PrintLast Go.Proofs.YtgcgecbdmomceaaW.PrintMore
set_option linter.unusedVariables false
set_option linter.unusedSimpArgs false
/-! PartsOf: the two answer alike -/
theorem lft_tabP {n : Nat} {l : List (List Int)} {s : Int} (h : Lft n l s) : Tab l ∧ 1 ≤ l.length ∧ (List.range' 0 l.length).all (okI l (sum0 l)) = true := by
 have hn := h.n1
 have h6 := h.n6
 refine ⟨⟨by rw [h.len]; exact h6, fun x hx => ?_⟩, by rw [h.len]; exact hn, ?_⟩
 · obtain ⟨i, hi, rfl⟩ := List.getElem_of_mem hx
   have hi' : i < n := by rw [← h.len]; exact hi
   have k := h.row i hi'
   rw [rd_L1n hi] at k
   refine ⟨by rw [k, h.len], fun y hy => ?_⟩
   obtain ⟨j, hj, rfl⟩ := List.getElem_of_mem hy
   have b := h.bd i j hi' (by omega)
   unfold atG at b
   rw [rd_L1n hi, rdn hj] at b
   exact b
 · have := (tabG_all (atG l) s).2 h.eq
   rw [lft_tab h] at this
   rw [lft_sum0 h, h.len]
   exact this
theorem tab_lft {l : List (List Int)} (h : squareB l = true) (ha : (List.range' 0 l.length).all (okI l (sum0 l)) = true) : Lft l.length l (sum0 l) := by
 obtain ⟨hT, h1⟩ := square_tab h
 refine ⟨rfl, h1, hT.len, fun i hi => tab_rowlen hT hi, fun i j hi hj => atG_bd hT hi hj, ?_⟩
 refine (tabG_all (atG l) (sum0 l)).1 ?_
 rw [tab_self h]
 exact ha
theorem tab_small {l : List (List Int)} (hT : Tab l) : smallR l = true := by
 have hl := hT.len
 unfold smallR
 simp only [Bool.and_eq_true, decide_eq_true_eq, List.all_eq_true]
 exact ⟨by omega, fun x hx => by have := (hT.row x hx).1; omega⟩
def accP (x8 : List (List Int)) (x9 : List Int) (q : List (List Int × Int)) : List (List Int) × List Int × Bool := (x8 ++ q.map Prod.fst, x9 ++ q.map Prod.snd, true)
theorem specParts_l1 {n : Nat} : ∀ (m : Nat) {l : List (List Int)} {s : Int}, Lft n l s → s ≤ (m : Int) → ∀ (x8 : List (List Int)) (x9 : List Int), x8.length + (partsL m l).length ≤ 1000000 → x9.length + (partsL m l).length ≤ 1000000 → Ev (fun k => spec_PartsOf.l1 k l x8 x9) (accP x8 x9 (partsL m l)) := by
 intro m
 induction m with
 | zero =>
  intro l s h hs x8 x9 _ _
  obtain ⟨hT, h1, ha⟩ := lft_tabP h
  have hd := doSum_ev hT h1
  rw [if_pos ha, lft_sum0 h] at hd
  refine Ev.succ ?_
  simp only [spec_PartsOf.l1]
  refine Ev.bind hd ?_
  simp only [if_neg (show ¬ s > 0 by omega)]
  have e : accP x8 x9 (partsL 0 l) = (x8, x9, true) := by simp [accP, partsL]
  rw [e]
  exact Ev.now _
 | succ m ih =>
  intro l s h hs x8 x9 h8 h9
  obtain ⟨hT, h1, ha⟩ := lft_tabP h
  have hd := doSum_ev hT h1
  rw [if_pos ha, lft_sum0 h] at hd
  refine Ev.succ ?_
  simp only [spec_PartsOf.l1]
  refine Ev.bind hd ?_
  by_cases c : s > 0
  · simp only [if_pos c]
    obtain ⟨p, r, e, hp⟩ := lft_plc h c
    obtain ⟨b1, _, _⟩ := lst_bd h hp
    have hdp := doPlc_ev l hT.len (fun i hi => by rw [tab_rowlen hT hi]; have := hT.len; omega) l.length [] 1 (by simp) (by omega) (by omega)
    rw [h.len, e, List.take_succ_cons, List.take_zero] at hdp
    refine Ev.bind hdp ?_
    have er : rd_L2 [p] 0 = p := rd_L1n (xs := [p]) (i := 0) (by simp)
    have hn := h.n1
    simp only [er, List.length_singleton, if_pos (show 0 < 1 ∧ 0 < p.length ∧ pOk l p 0 = true from ⟨by omega, by rw [hp.len]; omega, parts_ok h hp.plg (by omega)⟩), least_spec h hp, sub_all h hp, Option.bind_some]
    have ep : partsL (m + 1) l = (p, lstP l p) :: partsL m (subT l p (lstP l p)) := by
     conv => lhs; unfold partsL
     rw [lft_sum0 h, if_pos (show 0 < s from c), h.len, e]
    rw [ep] at h8 h9 ⊢
    rw [List.length_cons] at h8 h9
    simp only [if_pos (show x8.length < 1000000 ∧ x9.length < 1000000 by omega)]
    have := ih (lft_step h hp) (by omega) (x8 ++ [p]) (x9 ++ [lstP l p]) (by rw [List.length_append, List.length_singleton]; omega) (by rw [List.length_append, List.length_singleton]; omega)
    simpa [accP] using this
  · simp only [if_neg c]
    have e : accP x8 x9 (partsL (m + 1) l) = (x8, x9, true) := by
     have : partsL (m + 1) l = [] := by
      unfold partsL
      rw [lft_sum0 h, if_neg c]
     simp [accP, this]
    rw [e]
    exact Ev.now _
theorem implParts_l1 {n : Nat} : ∀ (m : Nat) {l : List (List Int)} {s : Int}, Lft n l s → s ≤ (m : Int) → ∀ (x8 : List (List Int)) (x9 : List Int), x8.length + (partsL m l).length ≤ 1000000 → x9.length + (partsL m l).length ≤ 1000000 → Ev (fun k => impl_PartsOf.l1 k l x8 x9) (accP x8 x9 (partsL m l)) := by
 intro m
 induction m with
 | zero =>
  intro l s h hs x8 x9 _ _
  obtain ⟨hT, h1, ha⟩ := lft_tabP h
  have e0 : rd_L2 l 0 = l[0] := rd_L1n (i := 0) (by omega)
  have hd := totalB_ev l[0] (tab_bg hT (List.getElem_mem (by omega)))
  rw [← sum0_at (by omega), lft_sum0 h] at hd
  refine Ev.succ ?_
  simp only [impl_PartsOf.l1, if_pos (show 0 < l.length ∧ smallR l = true from ⟨by omega, tab_small hT⟩), e0]
  refine Ev.bind hd ?_
  simp only [if_neg (show ¬ s > 0 by omega)]
  have e : accP x8 x9 (partsL 0 l) = (x8, x9, true) := by simp [accP, partsL]
  rw [e]
  exact Ev.now _
 | succ m ih =>
  intro l s h hs x8 x9 h8 h9
  obtain ⟨hT, h1, ha⟩ := lft_tabP h
  have e0 : rd_L2 l 0 = l[0] := rd_L1n (i := 0) (by omega)
  have hd := totalB_ev l[0] (tab_bg hT (List.getElem_mem (by omega)))
  rw [← sum0_at (by omega), lft_sum0 h] at hd
  refine Ev.succ ?_
  simp only [impl_PartsOf.l1, if_pos (show 0 < l.length ∧ smallR l = true from ⟨by omega, tab_small hT⟩), e0]
  refine Ev.bind hd ?_
  by_cases c : s > 0
  · simp only [if_pos c]
    obtain ⟨p, r, e, hp⟩ := lft_plc h c
    obtain ⟨b1, _, _⟩ := lst_bd h hp
    have hf : firstP l = some p := by rw [firstP_eq, h.len, e]; rfl
    simp only [hf, least_impl h hp, sub_all h hp, Option.bind_some]
    have ep : partsL (m + 1) l = (p, lstP l p) :: partsL m (subT l p (lstP l p)) := by
     conv => lhs; unfold partsL
     rw [lft_sum0 h, if_pos (show 0 < s from c), h.len, e]
    rw [ep] at h8 h9 ⊢
    rw [List.length_cons] at h8 h9
    simp only [if_pos (show x8.length < 1000000 ∧ x9.length < 1000000 by omega)]
    have := ih (lft_step h hp) (by omega) (x8 ++ [p]) (x9 ++ [lstP l p]) (by rw [List.length_append, List.length_singleton]; omega) (by rw [List.length_append, List.length_singleton]; omega)
    simpa [accP] using this
  · simp only [if_neg c]
    have e : accP x8 x9 (partsL (m + 1) l) = (x8, x9, true) := by
     have : partsL (m + 1) l = [] := by
      unfold partsL
      rw [lft_sum0 h, if_neg c]
     simp [accP, this]
    rw [e]
    exact Ev.now _
def ptsL (l : List (List Int)) : List (List Int × Int) := partsL (sum0 l).toNat l
def ptsR (l : List (List Int)) : List (List Int) × List Int × Bool := if squareB l = true then (if (List.range' 0 l.length).all (okI l (sum0 l)) = true then accP [] [] (ptsL l) else ([], [], false)) else ([], [], false)
theorem pts_few {n : Nat} {l : List (List Int)} {s : Int} (h : Lft n l s) : (ptsL l).length ≤ 26 := by
 have h0 := lft_sum h
 have h6 := h.n6
 have h1 := h.n1
 unfold ptsL
 rw [lft_sum0 h]
 have := parts_few (k := s.toNat) h (by omega)
 have k : (n - 1) * (n - 1) ≤ 5 * 5 := Nat.mul_le_mul (by omega) (by omega)
 omega
theorem copy_step {l z : List (List Int)} (he : z.length = l.length) {i : Nat} (hi : i < l.length) : (l.take i ++ z.drop i).set i l[i] = l.take (i + 1) ++ z.drop (i + 1) := by
 rw [List.drop_eq_getElem_cons (show i < z.length by omega), List.set_append_right _ _ (by rw [List.length_take]; omega), List.length_take, Nat.min_eq_left (by omega), Nat.sub_self, List.set_cons_zero, List.take_succ_eq_append_getElem hi, List.append_assoc]
 rfl
theorem specParts_l0 {l : List (List Int)} (hT : Tab l) (z : List (List Int)) (he : z.length = l.length) {r : List (List Int) × List Int × Bool} (hr : Ev (fun k => spec_PartsOf.l1 k l [] []) r) : ∀ (d i : Nat), i + d = l.length → Ev (fun k => spec_PartsOf.l0 k (l.take i ++ z.drop i) l (l.length : Int) (i : Int)) r
 | 0, i, e => by
  refine Ev.succ ?_
  simp only [spec_PartsOf.l0, if_neg (show ¬ (i : Int) < (l.length : Int) by omega)]
  rw [List.take_of_length_le (by omega), List.drop_eq_nil_of_le (by omega), List.append_nil]
  exact hr
 | d + 1, i, e => by
  have hi : i < l.length := by omega
  have hl := hT.len
  have hrow := (hT.row _ (List.getElem_mem hi)).1
  refine Ev.succ ?_
  simp only [spec_PartsOf.l0, if_pos (show (i : Int) < (l.length : Int) by omega), if_pos (show (0 : Int) ≤ (i : Int) by omega), rd_L1n hi, l1Own_eq l[i] (by omega), Option.bind_some, if_pos (show (i : Int) < ((l.take i ++ z.drop i).length : Int) by rw [List.length_append, List.length_take, List.length_drop]; omega), Int.toNat_natCast, copy_step he hi, wsucc hi (by omega)]
  exact specParts_l0 hT z he hr d (i + 1) (by omega)
theorem specPartsOf_ev (l : List (List Int)) (u0 : l.length ≤ 1048576) (v0 : totSS l ≤ 1048576) : Ev (fun k => spec_PartsOf.f k l) (ptsR l) := by
 unfold spec_PartsOf.f ptsR
 refine Ev.bind (doGood_ev l u0 v0) (Ev.ite (fun h => ?_) (fun _ => Ev.succ (by simp only [spec_PartsOf.j0, if_true]; exact Ev.now _)))
 obtain ⟨hT, h1⟩ := square_tab h
 have hl := hT.len
 refine Ev.bind (doSum_ev hT h1) ?_
 by_cases ha : (List.range' 0 l.length).all (okI l (sum0 l)) = true
 · rw [if_pos ha, if_pos ha]
   have hL := tab_lft h ha
   have hs := lft_sum hL
   simp only [decide_eq_false (show ¬ sum0 l < 0 by omega)]
   refine Ev.succ ?_
   simp only [spec_PartsOf.j0, Bool.false_eq_true, if_false]
   refine Ev.bind (doEmpty_ev l.length (by omega)) ?_
   have hf := pts_few hL
   have hr := specParts_l1 (sum0 l).toNat hL (by omega) [] [] (by unfold ptsL at hf; simp only [List.length_nil]; omega) (by unfold ptsL at hf; simp only [List.length_nil]; omega)
   have := specParts_l0 hT (tabG l.length fun _ _ => 0) (tabG_length _ _) hr l.length 0 (by omega)
   simpa [ptsL] using this
 · rw [if_neg ha, if_neg ha]
   simp only [decide_eq_true (show (-1 : Int) < 0 by omega)]
   exact Ev.succ (by simp only [spec_PartsOf.j0, if_true]; exact Ev.now _)
theorem implPartsOf_ev (l : List (List Int)) (u0 : l.length ≤ 1048576) (v0 : totSS l ≤ 1048576) : Ev (fun k => impl_PartsOf.f k l) (ptsR l) := by
 unfold impl_PartsOf.f ptsR
 simp only [implIsSquare_eq l u0 v0, Option.bind_some]
 refine Ev.ite (fun h => ?_) (fun _ => Ev.now _)
 obtain ⟨hT, h1⟩ := square_tab h
 have hl := hT.len
 refine Ev.bind (equalSum_ev hT h1) ?_
 by_cases ha : (List.range' 0 l.length).all (okI l (sum0 l)) = true
 · simp only [if_pos ha, if_true]
   have hL := tab_lft h ha
   have hs := lft_sum hL
   have hf := pts_few hL
   refine Ev.bind (square_ev (partF l) (atG l) l.length (by omega) (fun i j hi hj => ?_)) ?_
   · unfold partF
     rw [if_pos ⟨by omega, by omega, by omega, by rw [tab_rowlen hT hi]; omega⟩]
     rfl
   · rw [lft_tab hL]
     exact implParts_l1 (sum0 l).toNat hL (by omega) [] [] (by unfold ptsL at hf; simp only [List.length_nil]; omega) (by unfold ptsL at hf; simp only [List.length_nil]; omega)
 · simp only [if_neg ha, Bool.false_eq_true, if_false]
   exact Ev.now _
end Go.Proofs.Ytgcgecbdmomceaa.A

namespace Go.Proofs.Ytgcgecbdmomceaa.A
open Go.RowKit Go.Proofs.YtgcgecbdmomceaaW.PrintWords Go.Proofs.YtgcgecbdmomceaaW.PrintLast Go.Proofs.YtgcgecbdmomceaaW.PrintMore
set_option linter.unusedVariables false
set_option linter.unusedSimpArgs false
/-! PartsOf: the answer's size -/
theorem accP_nil (q : List (List Int × Int)) : accP [] [] q = (q.map Prod.fst, q.map Prod.snd, true) := by simp [accP]
theorem ptsR_bd (l : List (List Int)) : totSS (ptsR l).1 ≤ 1000 ∧ (ptsR l).1.length ≤ 1000 ∧ (ptsR l).2.1.length ≤ 1000 := by
 unfold ptsR
 split
 · next hq =>
   split
   · next ha =>
     have hL := tab_lft hq ha
     have h6 := hL.n6
     have hs := lft_sum hL
     have hf := pts_few hL
     have hall := (parts_all (sum0 l).toNat hL (by omega)).1
     rw [accP_nil]
     have ht : totSS ((ptsL l).map Prod.fst) ≤ 6 * ((ptsL l).map Prod.fst).length := tot_le (fun x hx => by
      obtain ⟨y, hy, rfl⟩ := List.mem_map.1 hx
      have := (hall y hy).1.len
      omega)
     rw [List.length_map] at ht
     refine ⟨?_, ?_, ?_⟩
     · show totSS ((ptsL l).map Prod.fst) ≤ 1000
       omega
     · show ((ptsL l).map Prod.fst).length ≤ 1000
       rw [List.length_map]
       omega
     · show ((ptsL l).map Prod.snd).length ≤ 1000
       rw [List.length_map]
       omega
   · exact ⟨by simp [totSS], by simp, by simp⟩
 · exact ⟨by simp [totSS], by simp, by simp⟩
end Go.Proofs.Ytgcgecbdmomceaa.A

namespace Go.Proofs.Ytgcgecbdmomceaa.A
open Go.RowKit Go.Proofs.YtgcgecbdmomceaaW.PrintWords Go.Proofs.YtgcgecbdmomceaaW.PrintLast Go.Proofs.YtgcgecbdmomceaaW.PrintMore
set_option linter.unusedVariables false
set_option linter.unusedSimpArgs false
/-! FromParts of PartsOf; the sum of what FromParts tells -/
theorem sumK_q (q : List (List Int × Int)) (a b : Nat) : ∀ k, k ≤ q.length → sumK (q.map Prod.fst) (q.map Prod.snd) k a b = ((q.take k).map fun x => x.2 * ptF x.1 a b).sum
 | 0, _ => by simp [sumK]
 | k + 1, h => by
  have hk : k < q.length := by omega
  rw [List.take_succ_eq_append_getElem hk, List.map_append, List.sum_append, ← sumK_q q a b k (by omega)]
  show sumK _ _ k a b + _ = _
  rw [rd_L1n (show k < (q.map Prod.fst).length by rw [List.length_map]; exact hk), rdn (show k < (q.map Prod.snd).length by rw [List.length_map]; exact hk), List.getElem_map, List.getElem_map]
  simp only [List.map_cons, List.map_nil, List.sum_cons, List.sum_nil]
  unfold ptF
  split <;> omega
theorem plg_place {n : Nat} {p : List Int} (h : Plg n p) (h1 : 1 ≤ n) (h6 : n ≤ 6) : placeB p = true := by
 have hl := h.len
 unfold placeB
 rw [if_pos (by omega), if_pos h.nd]
 unfold inR
 simp only [List.all_eq_true, decide_eq_true_eq]
 intro x hx
 have := h.bd x hx
 omega
theorem lft_square {n : Nat} {l : List (List Int)} {s : Int} (h : Lft n l s) : squareB l = true := by
 have := squareG h.n1 h.n6 (G := atG l) h.bd
 rw [lft_tab h] at this
 exact this
theorem fr_pts {n : Nat} {l : List (List Int)} {s : Int} (h : Lft n l s) (hs : 0 < s) : frR ((ptsL l).map Prod.fst) ((ptsL l).map Prod.snd) = (l, true) := by
 have hb := lft_sum h
 have hf := pts_few h
 have e0 := lft_sum0 h
 have h1 := h.n1
 have h6 := h.n6
 obtain ⟨i1, i2, i3, i4, _⟩ := parts_all (n := n) (sum0 l).toNat h (by omega)
 have hq : ptsL l = partsL (sum0 l).toNat l := rfl
 rw [← hq] at i1 i2 i3 i4
 generalize ptsL l = q at i1 i2 i3 i4 hf
 have hne : 0 < q.length := by
  cases q with
  | nil => simp at i2; omega
  | cons x r => simp
 have er : rd_L2 (q.map Prod.fst) 0 = q[0].1 := by
  rw [show (0 : Int) = ((0 : Nat) : Int) from rfl, rd_L1n (show 0 < (q.map Prod.fst).length by rw [List.length_map]; exact hne), List.getElem_map]
 have el : (rd_L2 (q.map Prod.fst) 0).length = n := by
  rw [er]
  exact (i1 _ (List.getElem_mem hne)).1.len
 unfold frR
 rw [if_pos (by rw [List.length_map]; omega), if_pos (by rw [List.length_map, List.length_map]), if_pos ?hin, if_pos ?hgood, el]
 case hin =>
  unfold inR
  simp only [List.all_eq_true, decide_eq_true_eq, List.mem_map]
  rintro x ⟨y, hy, rfl⟩
  have := i1 y hy
  omega
 case hgood =>
  rw [el]
  simp only [List.all_eq_true, List.mem_map]
  rintro x ⟨y, hy, rfl⟩
  have hp := (i1 y hy).1
  unfold goodP
  rw [decide_eq_true (by rw [hp.len]), plg_place hp h1 h6]
  rfl
 rw [tabG_congr (G' := atG l) (fun a b ha hb => by
  rw [List.length_map, sumK_q q a b q.length (Nat.le_refl _), List.take_of_length_le (Nat.le_refl _)]
  exact i3 a b ha hb), lft_tab h]
 unfold checkR
 rw [if_pos (lft_square h)]
theorem eqT_sumK {ps : List (List Int)} {cs : List Int} {n : Nat} (hp : ∀ k, k < ps.length → Plg n (rd_L2 ps (k : Int))) (hl : cs.length = ps.length) : ∀ m, m ≤ ps.length → EqT n (sumK ps cs m) (cs.take m).sum
 | 0, _ => fun i hi => by
  rw [List.take_zero, List.sum_nil]
  exact ⟨sN_none n, sN_none n⟩
 | m + 1, h => fun i hi => by
  have ih := eqT_sumK hp hl m (by omega) i hi
  have hk : m < cs.length := by omega
  have hpt := pt_eq (hp m (by omega)) i hi
  have hs : ∀ a b, sumK ps cs (m + 1) a b = sumK ps cs m a b + rd cs (m : Int) * ptF (rd_L2 ps (m : Int)) a b := fun a b => by
   show sumK ps cs m a b + _ = _
   unfold ptF
   split <;> omega
  rw [List.take_succ_eq_append_getElem hk, List.sum_append, List.sum_cons, List.sum_nil, ← rdn hk]
  constructor
  · rw [sN_congr (g := fun b => sumK ps cs m i b + rd cs (m : Int) * ptF (rd_L2 ps (m : Int)) i b) (fun b _ => hs i b), sN_add, sN_mul, ih.1, hpt.1]
    omega
  · rw [sN_congr (g := fun a => sumK ps cs m a i + rd cs (m : Int) * ptF (rd_L2 ps (m : Int)) a i) (fun a _ => hs a i), sN_add n (fun a => sumK ps cs m a i), sN_mul, ih.2, hpt.2]
    omega
theorem fr_sum {ps : List (List Int)} {cs : List Int} {u : List (List Int)} (h : frR ps cs = (u, true)) : equalR u = (cs.sum, true) ∧ cs.length ≤ 40 ∧ ∀ x ∈ cs, 0 ≤ x ∧ x ≤ 1000000 := by
 unfold frR at h
 split at h
 · next h1 =>
   split at h
   · next h2 =>
     split at h
     · next h3 =>
       split at h
       · next h4 =>
         have hP := parts_of h1 h2 h3 h4
         obtain ⟨hq, e⟩ := checkR_ok h
         have hm := List.all_eq_true.1 h4
         refine ⟨?_, by omega, fun x hx => by unfold inR at h3; simp only [List.all_eq_true, decide_eq_true_eq] at h3; exact h3 x hx⟩
         rw [e]
         refine equal_of hq ?_
         have := eqT_sumK (ps := ps) (cs := cs) (n := (rd_L2 ps 0).length) (fun k hk => ?_) (by omega) ps.length (Nat.le_refl _)
         · rw [List.take_of_length_le (by omega)] at this
           exact this
         · have hg := hm _ (List.getElem_mem hk)
           rw [rd_L1n hk]
           unfold goodP at hg
           rw [Bool.and_eq_true, decide_eq_true_eq] at hg
           obtain ⟨_, _, p3, p4⟩ := placeB_len hg.2
           refine ⟨by omega, p3, fun x hx => ?_⟩
           have := p4 x hx
           omega
       · simp at h
     · simp at h
   · simp at h
 · simp at h
end Go.Proofs.Ytgcgecbdmomceaa.A

namespace Go.Proofs.Ytgcgecbdmomceaa.A
open Go.RowKit Go.Proofs.YtgcgecbdmomceaaW.PrintWords Go.Proofs.YtgcgecbdmomceaaW.PrintLast Go.Proofs.YtgcgecbdmomceaaW.PrintMore
set_option linter.unusedVariables false
set_option linter.unusedSimpArgs false
/-! the words on rows that the laws of tables share -/
theorem ySame_l (xs ys : List Int) (hx : xs.length ≤ 9223372036854775807) (hl : xs.length = ys.length) : ∀ (n i : Nat), i + n = xs.length → Ev (fun k => laws_ySame.l0 k xs ys (xs.length : Int) (i : Int)) (decide (xs.drop i = ys.drop i))
 | 0, i, h => by
  refine Ev.succ ?_
  simp only [laws_ySame.l0, if_neg (show ¬ (i : Int) < (xs.length : Int) by omega)]
  rw [List.drop_eq_nil_of_le (by omega), List.drop_eq_nil_of_le (by omega), decide_eq_true rfl]
  exact Ev.now _
 | n + 1, i, h => by
  have hi : i < xs.length := by omega
  have hj : i < ys.length := by omega
  refine Ev.succ ?_
  simp only [laws_ySame.l0, if_pos (show (i : Int) < (xs.length : Int) by omega), if_pos (show (0 : Int) ≤ (i : Int) by omega), if_pos (show (i : Int) < (ys.length : Int) by omega), rdn hi, rdn hj, wsucc hi hx]
  rw [List.drop_eq_getElem_cons hi, List.drop_eq_getElem_cons hj]
  by_cases c : xs[i] = ys[i]
  · simp only [if_pos c, c, List.cons.injEq, true_and]
    exact ySame_l xs ys hx hl n (i + 1) (by omega)
  · simp only [if_neg c, List.cons.injEq, c, false_and, decide_false]
    exact Ev.now _
theorem ySame_ev (xs ys : List Int) (hx : xs.length ≤ 9223372036854775807) : Ev (fun k => laws_ySame.f k xs ys) (decide (xs = ys)) := by
 unfold laws_ySame.f
 by_cases h : (xs.length : Int) = (ys.length : Int)
 · simp only [if_pos h]
   exact ySame_l xs ys hx (by omega) xs.length 0 (by omega)
 · simp only [if_neg h]
   rw [decide_eq_false (fun e => h (by rw [e]))]
   exact Ev.now _
theorem ySame_self (xs : List Int) (hx : xs.length ≤ 9223372036854775807) : Ev (fun k => laws_ySame.f k xs xs) true := by
 have h := ySame_ev xs xs hx
 rw [decide_eq_true rfl] at h
 exact h
theorem yRows_l (l : List (List Int)) (hl : l.length ≤ 9223372036854775807) (hx : ∀ x ∈ l, x.length ≤ 9223372036854775807) : ∀ (d i : Nat), i + d = l.length → Ev (fun k => laws_yRows.l0 k l l (l.length : Int) (i : Int)) true
 | 0, i, e => by
  refine Ev.succ ?_
  simp only [laws_yRows.l0, if_neg (show ¬ (i : Int) < (l.length : Int) by omega)]
  exact Ev.now _
 | d + 1, i, e => by
  have hi : i < l.length := by omega
  refine Ev.succ ?_
  simp only [laws_yRows.l0, if_pos (show (i : Int) < (l.length : Int) by omega), if_pos (Int.natCast_nonneg i), rd_L1n hi, wsucc hi (by omega)]
  refine Ev.bind (ySame_self l[i] (hx _ (List.getElem_mem hi))) ?_
  simp only [if_true]
  exact yRows_l l hl hx d (i + 1) (by omega)
theorem yRows_self (l : List (List Int)) (hl : l.length ≤ 1000) (ht : totSS l ≤ 1000) : Ev (fun k => laws_yRows.f k l l) true := by
 unfold laws_yRows.f
 simp only [if_true]
 exact yRows_l l (by omega) (fun x hx => by have := len_tot hx; omega) l.length 0 (by omega)
end Go.Proofs.Ytgcgecbdmomceaa.A

/- The law FnPartsOfTables holds of the printed functions, for every argument: numbers and lists alone. -/
namespace Go.Proofs.Ytgcgecbdmomceaa.Pure
open Go.RowKit Go.Proofs.Ytgcgecbdmomceaa.A Go.Proofs.YtgcgecbdmomceaaW.PrintWords Go.Proofs.YtgcgecbdmomceaaW.PrintLast
set_option linter.unusedVariables false
set_option linter.unusedSimpArgs false
theorem sum_nn : ∀ {xs : List Int}, (∀ x ∈ xs, 0 ≤ x) → 0 ≤ xs.sum
 | [], _ => by simp
 | x :: r, h => by
  have := sum_nn (xs := r) fun y hy => h y (List.mem_cons_of_mem _ hy)
  have := h x List.mem_cons_self
  rw [List.sum_cons]
  omega
theorem sum_most {m : Int} (hm : 0 ≤ m) : ∀ {xs : List Int}, (∀ x ∈ xs, x ≤ m) → xs.sum ≤ m * (xs.length : Int)
 | [], _ => by simp
 | x :: r, h => by
  have ih := sum_most hm (xs := r) fun y hy => h y (List.mem_cons_of_mem _ hy)
  have h2 := h x List.mem_cons_self
  rw [List.sum_cons, List.length_cons, show m * ((r.length + 1 : Nat) : Int) = m * (r.length : Int) + m by rw [Int.natCast_add, Int.mul_add]; simp]
  omega
theorem pt_l1 (u : List (List Int)) (C : List Int) (hu : u.length ≤ 1048576) (ht : totSS u ≤ 1048576) (he : equalR u = (C.sum, true)) (hl : C.length ≤ 40) (hb : ∀ x ∈ C, 0 ≤ x ∧ x ≤ 1000000) : ∀ (d i : Nat) (acc : Int), i + d = C.length → 0 ≤ acc → acc + (C.drop i).sum = C.sum → Ev (fun k => laws_FnPartsOfTables.l1 k u acc C (C.length : Int) (i : Int)) true
 | 0, i, acc, hi, h0, hs => by
  rw [List.drop_eq_nil_of_le (by omega), List.sum_nil] at hs
  refine Ev.succ ?_
  simp only [laws_FnPartsOfTables.l1, if_neg (show ¬ (i : Int) < (C.length : Int) by omega)]
  refine Ev.bind (implEqualSum_ev u hu ht) ?_
  simp only [he, if_true]
  rw [show C.sum = acc by omega]
  simp only [beq_self_eq_true]
  exact Ev.now _
 | d + 1, i, acc, hi, h0, hs => by
  have hi2 : i < C.length := by omega
  have hx := hb _ (List.getElem_mem hi2)
  have hn := sum_nn (xs := C.drop (i + 1)) fun x hx => (hb x (List.mem_of_mem_drop hx)).1
  have hm := sum_most (m := 1000000) (by omega) (xs := C) fun x hx => (hb x hx).2
  rw [List.drop_eq_getElem_cons hi2, List.sum_cons] at hs
  refine Ev.succ ?_
  simp only [laws_FnPartsOfTables.l1, if_pos (show (i : Int) < (C.length : Int) by omega), if_pos (show (0 : Int) ≤ (i : Int) by omega), rdn hi2, wsucc hi2 (by omega), w64 (x := acc + C[i]) (by omega) (by omega)]
  exact pt_l1 u C hu ht he hl hb d (i + 1) (acc + C[i]) (by omega) (by omega) (by omega)
theorem pt_j3 (l1 : List Int) (b1 : Bytes l1) : Ev (fun k => laws_FnPartsOfTables.j3 k l1) true := by
 obtain ⟨⟨P, C⟩, e1, hv⟩ := drawFrom_ev l1 b1
 obtain ⟨k1, k2, k3⟩ := hv.tot
 have kb := frR_bd P C
 refine Ev.succ ?_
 simp only [laws_FnPartsOfTables.j3]
 refine Ev.bind e1 (Ev.bind (implFromParts_ev P C k1 k2 k3) (Ev.bind (specFromParts_ev P C k1 k2 k3) ?_))
 simp only [bne_self_eq_false, Bool.false_eq_true, if_false]
 refine Ev.bind (yRows_self _ kb.2 kb.1) ?_
 simp only [Bool.not_true]
 refine Ev.succ ?_
 simp only [laws_FnPartsOfTables.j4, Bool.false_eq_true, if_false]
 refine Ev.ite' (fun c => ?_) (fun _ => Ev.now _)
 obtain ⟨h1, h2, h3⟩ := fr_sum (u := (frR P C).1) (by rw [← c])
 exact pt_l1 _ C (by omega) (by omega) h1 h2 h3 C.length 0 0 (by omega) (by omega) (by rw [List.drop_zero]; omega)
theorem pt_j2 (l1 : List Int) (b1 : Bytes l1) (t : List (List Int)) (P : List (List Int)) (C : List Int) (s : Int) (hf : 0 < s → frR P C = (t, true)) (hP : P.length ≤ 1048576) (hP2 : totSS P ≤ 1048576) (hC : C.length ≤ 1048576) (h1 : t.length ≤ 1000) (h2 : totSS t ≤ 1000) : Ev (fun k => laws_FnPartsOfTables.j2 k l1 t P C s false) true := by
 refine Ev.succ ?_
 simp only [laws_FnPartsOfTables.j2, Bool.false_eq_true, if_false]
 refine Ev.ite' (fun c => ?_) (fun _ => pt_j3 l1 b1)
 have e := hf (by omega)
 refine Ev.bind (implFromParts_ev P C hP hP2 hC) ?_
 simp only [e, if_true]
 refine Ev.bind (yRows_self t h1 h2) ?_
 simp only [if_true]
 exact pt_j3 l1 b1
theorem pt_l0 (l1 : List Int) (t P : List (List Int)) (C : List Int) (s : Int) (n : Int) (hs : s ≤ 6000000) (hl : C.length ≤ 1000) (hc : ∀ x ∈ C, 1 ≤ x ∧ x ≤ 1000000) (he : C.sum = s) (hr : Ev (fun k => laws_FnPartsOfTables.j2 k l1 t P C s (decide ((P.length : Int) > (wrap64 ((wrap64 ((wrap64 (n - 1)) * (wrap64 (n - 1)))) + 1))))) true) : ∀ (d i : Nat) (acc : Int), i + d = C.length → 0 ≤ acc → acc + (C.drop i).sum = C.sum → Ev (fun k => laws_FnPartsOfTables.l0 k l1 t P C s n acc C (C.length : Int) (i : Int)) true
 | 0, i, acc, hi, h0, hq => by
  rw [List.drop_eq_nil_of_le (by omega), List.sum_nil] at hq
  refine Ev.succ ?_
  simp only [laws_FnPartsOfTables.l0, if_neg (show ¬ (i : Int) < (C.length : Int) by omega), if_pos (show acc = s by omega)]
  exact hr
 | d + 1, i, acc, hi, h0, hq => by
  have hi2 : i < C.length := by omega
  have hx := hc _ (List.getElem_mem hi2)
  have hn := sum_nn (xs := C.drop (i + 1)) fun x hx => by have := hc x (List.mem_of_mem_drop hx); omega
  rw [List.drop_eq_getElem_cons hi2, List.sum_cons] at hq
  refine Ev.succ ?_
  simp only [laws_FnPartsOfTables.l0, if_pos (show (i : Int) < (C.length : Int) by omega), if_pos (show (0 : Int) ≤ (i : Int) by omega), rdn hi2, wsucc hi2 (by omega), w64 (x := acc + C[i]) (by omega) (by omega), if_neg (show ¬ C[i] < 1 by omega)]
  exact pt_l0 l1 t P C s n hs hl hc he hr d (i + 1) (acc + C[i]) (by omega) (by omega) (by omega)
theorem pts_equal (t : List (List Int)) : (equalR t).2 = (ptsR t).2.2 ∧ ((ptsR t).2.2 = true → squareB t = true ∧ (List.range' 0 t.length).all (okI t (sum0 t)) = true ∧ (equalR t).1 = sum0 t ∧ ptsR t = ((ptsL t).map Prod.fst, (ptsL t).map Prod.snd, true)) := by
 unfold equalR ptsR
 split
 · next hq =>
   split
   · next ha => exact ⟨by rw [accP_nil], fun _ => ⟨hq, ha, rfl, accP_nil _⟩⟩
   · exact ⟨rfl, fun h => by cases h⟩
 · exact ⟨rfl, fun h => by cases h⟩
theorem FnPartsOfTables : laws_FnPartsOfTables.Pure := by
 intro l0 l1 _ g0 x0 _ g1 x1
 apply Ev.get
 unfold laws_FnPartsOfTables.f
 rcases big_cut l0 l1 g0 x0 x1 with hb | ⟨hb, b0, b1⟩
 · simp only [hb, Option.bind_some, if_true]
   exact Ev.now _
 · simp only [hb, Option.bind_some, Bool.false_eq_true, if_false]
   obtain ⟨t, e, ht⟩ := drawParts_ev l0 b0
   have k1 := ht.tot
   have k2 := ptsR_bd t
   obtain ⟨p1, p2⟩ := pts_equal t
   refine Ev.bind e (Ev.bind (implPartsOf_ev t k1.1 k1.2) (Ev.bind (specPartsOf_ev t k1.1 k1.2) (Ev.bind (implEqualSum_ev t k1.1 k1.2) (Ev.bind (specEqualSum_ev t k1.1 k1.2) ?_))))
   simp only [bne_self_eq_false, Bool.false_eq_true, if_false]
   refine Ev.bind (yRows_self _ k2.2.1 k2.1) ?_
   simp only [if_true]
   refine Ev.bind (ySame_self _ (by omega)) ?_
   simp only [if_true, p1, bne_self_eq_false]
   refine Ev.succ ?_
   simp only [laws_FnPartsOfTables.j0, Bool.false_eq_true, if_false]
   refine Ev.ite' (fun c => ?_) (fun _ => pt_j3 l1 b1)
   obtain ⟨hq, ha, es, ep⟩ := p2 c
   have hL := tab_lft hq ha
   have hb := lft_sum hL
   have h1 := hL.n1
   have h6 := hL.n6
   obtain ⟨i1, i2, i3, i4, _⟩ := parts_all (n := t.length) (sum0 t).toNat hL (by omega)
   have hfew := parts_few (n := t.length) (k := (sum0 t).toNat) hL (by omega)
   have hq2 : ptsL t = partsL (sum0 t).toNat t := rfl
   rw [← hq2] at i1 i2 i3 i4 hfew
   have hlt := checkR_bd t
   unfold checkR at hlt
   rw [if_pos hq] at hlt
   rw [ep] at k2
   dsimp only at k2
   simp only [es, ep]
   refine pt_l0 l1 t _ _ (sum0 t) (t.length : Int) (by omega) k2.2.2 (fun x hx => ?_) i2 ?_ ((ptsL t).map Prod.snd).length 0 0 (by omega) (by omega) (by rw [List.drop_zero]; omega)
   · obtain ⟨y, hy, rfl⟩ := List.mem_map.1 hx
     exact (i1 y hy).2
   · obtain ⟨n, hn⟩ : ∃ n, n = t.length - 1 := ⟨_, rfl⟩
     have hw : wrap64 ((t.length : Int) - 1) = (n : Int) := by rw [w64 (by omega) (by omega)]; omega
     have hnn : n * n ≤ 5 * 5 := Nat.mul_le_mul (by omega) (by omega)
     have hcast : (n : Int) * (n : Int) = ((n * n : Nat) : Int) := by rw [Int.natCast_mul]
     rw [← hn] at hfew
     rw [hw, hcast, w64 (x := ((n * n : Nat) : Int)) (by omega) (by omega), w64 (by omega) (by omega), decide_eq_false (by rw [List.length_map]; omega)]
     exact pt_j2 l1 b1 t _ _ (sum0 t) (fun h => fr_pts hL h) (by have := k2.2.1; omega) (by have := k2.1; omega) (by have := k2.2.2; omega) hlt.2 hlt.1
end Go.Proofs.Ytgcgecbdmomceaa.Pure
