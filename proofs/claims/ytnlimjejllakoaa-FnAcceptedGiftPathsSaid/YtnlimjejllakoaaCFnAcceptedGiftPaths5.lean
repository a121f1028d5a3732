/- What the law FnAcceptedGiftPaths reaches, part 5: Lean functions with the same answers as the Go functions, the proofs that the Go code comes to these answers, and lemmas about them; no condition beyond those that each theorem names. -/
import Derived.Test.YtnlimjejllakoaaCFnAcceptedGiftPathsw1
import Derived.Lib.VarintBits
import Derived.Lib.Zigzag
import Derived.Test.YtnlimjejllakoaaCFnAcceptedGiftPaths1
import Derived.Test.YtnlimjejllakoaaCFnAcceptedGiftPaths2
import Derived.Test.YtnlimjejllakoaaCFnAcceptedGiftPaths3
import Derived.Test.YtnlimjejllakoaaCFnAcceptedGiftPaths4
set_option linter.unusedVariables false
set_option linter.unusedSimpArgs false
set_option maxHeartbeats 8000000
set_option maxRecDepth 100000
namespace Go.Proofs.Ytnlimjejllakoaa.A
open Go.RowKit Go.Proofs.YtnlimjejllakoaaW.PrintWords Go.Proofs.YtnlimjejllakoaaW.PrintLast Go.Proofs.YtnlimjejllakoaaW.PrintMore
attribute [local go_sem] max2_int min2_int max_two min_two max_three min_three max_four min_four
mutual
def laws_FnAcceptedGiftPaths.j0 : Nat → List Int → List Int → List Int → List (S39) → Bool → Bool → Option (Bool)
 | 0, _, _, _, _, _, _ => none
 | k + 1, x1, x5, x6, x7, x8, x54 => if x54 = true then (some false) else ((spec_DrawFollowGifts.f k x1).bind fun bt1616 => ((impl_FollowGifts.f k bt1616.1 bt1616.2).bind fun bt1622 => ((spec_FollowGifts.f k bt1616.1 bt1616.2).bind fun bt1626 => (if (bt1622.2 != bt1626.2) = true then (laws_FnAcceptedGiftPaths.j1 k x5 x6 x7 x8 bt1622.1 true) else ((laws_pSameRows.f k bt1622.1 bt1626.1).bind fun t1630 => (laws_FnAcceptedGiftPaths.j1 k x5 x6 x7 x8 bt1622.1 (!t1630)))))))
def laws_FnAcceptedGiftPaths.j1 : Nat → List Int → List Int → List (S39) → Bool → List (List Int) → Bool → Option (Bool)
 | 0, _, _, _, _, _, _ => none
 | k + 1, x5, x6, x7, x8, x14, x80 => if x80 = true then (some false) else (laws_FnAcceptedGiftPaths.l0 k x5 x6 x7 x8 x14 1)
def laws_FnAcceptedGiftPaths.l0 : Nat → List Int → List Int → List (S39) → Bool → List (List Int) → Int → Option (Bool)
 | 0, _, _, _, _, _, _ => none
 | k + 1, x5, x6, x7, x8, x14, x18 => if x18 < (x14.length : Int) then (if 0 ≤ x18 then (if 0 ≤ (wrap64 (x18 - 1)) then (if (wrap64 (x18 - 1)) < (x14.length : Int) then ((laws_pBelow.f k (rd_L2 x14 x18) (rd_L2 x14 (wrap64 (x18 - 1)))).bind fun t1633 => (if t1633 = true then ((laws_pBelow.f k (rd_L2 x14 (wrap64 (x18 - 1))) (rd_L2 x14 x18)).bind fun t1636 => (if t1636 = true then (some false) else (laws_FnAcceptedGiftPaths.l0 k x5 x6 x7 x8 x14 (wrap64 (x18 + 1))))) else (some false))) else (none)) else (none)) else (none)) else (if x8 = true then ((impl_FewestUnits.f k x5 x6).bind fun bt1637 => (laws_FnAcceptedGiftPaths.l1 k x5 x6 bt1637.1 bt1637.2 0 x7 (x7.length : Int) 0)) else (some true))
def laws_FnAcceptedGiftPaths.l1 : Nat → List Int → List Int → Int → Bool → Int → List (S39) → Int → Int → Option (Bool)
 | 0, _, _, _, _, _, _, _, _ => none
 | k + 1, x5, x6, x19, x20, x21, x118, x119, x120 => if x120 < x119 then (if 0 ≤ x120 then (if x120 < (x118.length : Int) then (laws_FnAcceptedGiftPaths.l1 k x5 x6 x19 x20 (wrap64 (x21 + ((rd_T39 x118 x120).f2))) x118 x119 (wrap64 (x120 + 1))) else (none)) else (none)) else (if x20 = true then ((laws_pBelow.f k x5 x6).bind fun t1641 => (if t1641 = true then (some (decide (x21 ≥ x19))) else (some false))) else (some false))
end
def laws_FnAcceptedGiftPaths.f (k : Nat) (l0 : List Int) (l1 : List Int) : Option (Bool) := (laws_big.f l0 l1).bind fun t1602 => (if t1602 = true then (some true) else ((spec_DrawIsGiftPath.f k l0).bind fun bt1603 => ((impl_IsGiftPath.f bt1603.1 bt1603.2.1 bt1603.2.2).bind fun bt1612 => ((spec_IsGiftPath.f k bt1603.1 bt1603.2.1 bt1603.2.2).bind fun bt1614 => (if (bt1612.2 != bt1614.2) = true then (laws_FnAcceptedGiftPaths.j0 k l1 bt1603.1 bt1603.2.1 bt1603.2.2 bt1612.1 true) else (laws_FnAcceptedGiftPaths.j0 k l1 bt1603.1 bt1603.2.1 bt1603.2.2 bt1612.1 (bt1612.1 != bt1614.1)))))))
def laws_FnAcceptedGiftPaths.T16 : Bool × List (List Nat × List Nat) := (true, [([], []), ([], []), ([0, 1], [0, 1]), ([2], [2]), ([], []), ([], []), ([5], [5]), ([4, 6], [4, 6]), ([7], [7]), ([3, 8], [3, 8]), ([9], [9]), ([10, 9], [10]), ([11], [11]), ([11], [11]), ([13, 11], [11, 13]), ([12, 14, 11], [11, 12, 14]), ([15, 11], [11, 15]), ([11], [11]), ([11], [11]), ([17, 18, 11], [11, 17, 18]), ([19, 11], [11, 19]), ([16, 20, 11, 11], [11, 16, 20]), ([11, 21], [11, 21])])
def laws_FnAcceptedGiftPaths.B16 : List Nat := [0, 0, 3, 7, 0, 0, 32, 112, 240, 511, 1023, 2047, 4095, 4095, 12287, 32767, 65535, 4095, 4095, 397311, 921599, 2097151, 4194303]
theorem laws_FnAcceptedGiftPaths.tab16 : rtab .any (opsOf Try.f12 16) = laws_FnAcceptedGiftPaths.T16 := by kernel_rfl
theorem laws_FnAcceptedGiftPaths.bits16 : waitsOk laws_FnAcceptedGiftPaths.T16.2 laws_FnAcceptedGiftPaths.B16 = true := by kernel_rfl
theorem laws_FnAcceptedGiftPaths.calls (k : Nat) (A0 : Option Addr) (c0 : Nat) (l0 : List Int) (A1 : Option Addr) (c1 : Nat) (l1 : List Int) (r : Bool) (w : World) (hr0 : Kd.C (Kd.int .u8) w A0 l0.length l0) (hc0 : l0.length ≤ c0) (hr1 : Kd.C (Kd.int .u8) w A1 l1.length l1) (hc1 : l1.length ≤ c1) (h : laws_FnAcceptedGiftPaths.f k l0 l1 = some r) :
 Calls Try.prog 12 #[.slice A0 l0.length c0, .slice A1 l1.length c1] w fun e w' => e = .returned (.bool r) ∧ Below w.heap.size w w' := by
 have hu39 := Try.underlying39
 have HR0 := zad hr0; have HC0 := zad hc0; clear hr0 hc0; have HR1 := zad hr1; have HC1 := zad hc1; clear hr1 hc1; have HB := zad (Below.refl w.heap.size w)
 have H : ((laws_big.f l0 l1).bind fun t1602 => (if t1602 = true then (some true) else ((spec_DrawIsGiftPath.f k l0).bind fun bt1603 => ((impl_IsGiftPath.f bt1603.1 bt1603.2.1 bt1603.2.2).bind fun bt1612 => ((spec_IsGiftPath.f k bt1603.1 bt1603.2.1 bt1603.2.2).bind fun bt1614 => (if (bt1612.2 != bt1614.2) = true then (laws_FnAcceptedGiftPaths.j0 k l1 bt1603.1 bt1603.2.1 bt1603.2.2 bt1612.1 true) else (laws_FnAcceptedGiftPaths.j0 k l1 bt1603.1 bt1603.2.1 bt1603.2.2 bt1612.1 (bt1612.1 != bt1614.1)))))))) = some r := h
 clear h; replace H := zay.mp H; obtain ⟨t1602, A30, H⟩ := H
 replace H : (if t1602 = true then (some true) else ((spec_DrawIsGiftPath.f k l0).bind fun bt1603 => ((impl_IsGiftPath.f bt1603.1 bt1603.2.1 bt1603.2.2).bind fun bt1612 => ((spec_IsGiftPath.f k bt1603.1 bt1603.2.1 bt1603.2.2).bind fun bt1614 => (if (bt1612.2 != bt1614.2) = true then (laws_FnAcceptedGiftPaths.j0 k l1 bt1603.1 bt1603.2.1 bt1603.2.2 bt1612.1 true) else (laws_FnAcceptedGiftPaths.j0 k l1 bt1603.1 bt1603.2.1 bt1603.2.2 bt1612.1 (bt1612.1 != bt1614.1))))))) = some r := H
 have A3 := zad A30; clear A30; by_cases c4 : t1602 = true
 · subst c4
   have H1 : (some true) = some r := by rw [if_pos rfl] at H; exact H
   clear H; have H := H1; clear H1; obtain rfl := zbc H
   go_enter Try.func12, Try.ntmps12
   go_wp2_with (first | ((with_reducible refine zbf (f := 13) rfl ?_); refine zbn (some 26) rfl rfl Try.func13 (by kernel_rfl) rfl #[.slice A0 l0.length c0, .slice A1 l1.length c1] rfl (taad) ?_; (with_reducible refine (laws_big.calls _ _ l0 _ _ l1 true _ ?side1 ?side2 ?side3 ?side4 A3.out).mono ?_); (case side1 => exact taeu); (case side2 => exact HC0.out); (case side3 => exact taey); (case side4 => exact HC1.out); rintro e w' ⟨rfl, ⟨nd, rfl⟩⟩; refine ⟨_, rfl, ?_⟩))
   go_ret
   exact ⟨taah, taaa⟩
 · replace c4 := zbg.mpr c4
   subst c4; have H1 : ((spec_DrawIsGiftPath.f k l0).bind fun bt1603 => ((impl_IsGiftPath.f bt1603.1 bt1603.2.1 bt1603.2.2).bind fun bt1612 => ((spec_IsGiftPath.f k bt1603.1 bt1603.2.1 bt1603.2.2).bind fun bt1614 => (if (bt1612.2 != bt1614.2) = true then (laws_FnAcceptedGiftPaths.j0 k l1 bt1603.1 bt1603.2.1 bt1603.2.2 bt1612.1 true) else (laws_FnAcceptedGiftPaths.j0 k l1 bt1603.1 bt1603.2.1 bt1603.2.2 bt1612.1 (bt1612.1 != bt1614.1)))))) = some r := by rw [if_neg (show ¬ (false = true) by decide)] at H; exact H
   clear H; have H := H1; clear H1; replace H := zay.mp H; obtain ⟨⟨t1603, t1604, t1605⟩, A50, H⟩ := H
   replace H : ((impl_IsGiftPath.f t1603 t1604 t1605).bind fun bt1612 => ((spec_IsGiftPath.f k t1603 t1604 t1605).bind fun bt1614 => (if (bt1612.2 != bt1614.2) = true then (laws_FnAcceptedGiftPaths.j0 k l1 t1603 t1604 t1605 bt1612.1 true) else (laws_FnAcceptedGiftPaths.j0 k l1 t1603 t1604 t1605 bt1612.1 (bt1612.1 != bt1614.1))))) = some r := H
   have A5 := zad A50; clear A50; replace H := zay.mp H; obtain ⟨⟨t1612, t1613⟩, A60, H⟩ := H
   replace H : ((spec_IsGiftPath.f k t1603 t1604 t1605).bind fun bt1614 => (if (t1613 != bt1614.2) = true then (laws_FnAcceptedGiftPaths.j0 k l1 t1603 t1604 t1605 t1612 true) else (laws_FnAcceptedGiftPaths.j0 k l1 t1603 t1604 t1605 t1612 (t1612 != bt1614.1)))) = some r := H
   have A6 := zad A60; clear A60; replace H := zay.mp H; obtain ⟨⟨t1614, t1615⟩, A70, H⟩ := H
   replace H : (if (t1613 != t1615) = true then (laws_FnAcceptedGiftPaths.j0 k l1 t1603 t1604 t1605 t1612 true) else (laws_FnAcceptedGiftPaths.j0 k l1 t1603 t1604 t1605 t1612 (t1612 != t1614))) = some r := H
   have A7 := zad A70; clear A70; have HC8 := zad H; clear H; go_enter Try.func12, Try.ntmps12
   go_upto_region 6 with (first | ((with_reducible refine zbf (f := 13) rfl ?_); refine zbn (some 26) rfl rfl Try.func13 (by kernel_rfl) rfl #[.slice A0 l0.length c0, .slice A1 l1.length c1] rfl (taad) ?_; (with_reducible refine (laws_big.calls _ _ l0 _ _ l1 false _ ?side1 ?side2 ?side3 ?side4 A3.out).mono ?_); (case side1 => repeat (first | exact HR0.out | (with_reducible refine zal ?_ _) | (with_reducible refine zam ?_ _) | (with_reducible refine zan ?_))); (case side2 => exact HC0.out); (case side3 => repeat (first | exact HR1.out | (with_reducible refine zal ?_ _) | (with_reducible refine zam ?_ _) | (with_reducible refine zan ?_))); (case side4 => exact HC1.out); rintro e w' ⟨rfl, ⟨nd, rfl⟩⟩; refine ⟨_, rfl, ?_⟩) | ((with_reducible refine zbf (f := 76) rfl ?_); refine zbn (some 29) rfl rfl Try.func76 (by kernel_rfl) rfl #[.slice A0 l0.length c0] rfl (taad) ?_; (with_reducible refine (spec_DrawIsGiftPath.calls k _ _ l0 t1603 t1604 t1605 _ ?side1 ?side2 A5.out).mono ?_); (case side1 => repeat (first | exact HR0.out | (with_reducible refine zal ?_ _) | (with_reducible refine zam ?_ _) | (with_reducible refine zan ?_))); (case side2 => exact HC0.out); rintro e w9 ⟨v1606, v1608, v1610, rfl, ho0, ho1, ho2, hb⟩; refine ⟨_, rfl, ?_⟩; have n0_ := zad (zbu ho0 (zbk (taaa))); have n1_ := zad (zbu ho1 (zbk (taaa))); have n2_ := zad (zbu ho2 (zbk (taaa))); have n3_ := zad (zbe (taaa) hb); clear HB; have HO1607 := n0_; have HO1609 := n1_; have HO1611 := n2_; have HB := n3_; clear n0_ n1_ n2_ n3_; (try clear hb); (try clear hb2); (try clear hk); (try clear hi); (try clear ho0); (try clear ho1); (try clear ho2); obtain ⟨Ao10, co10, eo10⟩ := zbv HO1607.out; subst eo10; obtain ⟨Ao11, co11, eo11⟩ := zbv HO1609.out; subst eo11; obtain ⟨Ao12, co12, eo12⟩ := zbv HO1611.out; subst eo12) | ((with_reducible refine zbf (f := 63) rfl ?_); refine zbn (some 37) rfl rfl Try.func63 (by kernel_rfl) rfl #[.slice Ao10 t1603.length co10, .slice Ao11 t1604.length co11, .slice Ao12 t1605.length co12] rfl (taad) ?_; (with_reducible refine (impl_IsGiftPath.calls _ _ t1603 _ _ t1604 _ _ t1605 t1612 t1613 _ ?side1 ?side2 ?side3 ?side4 ?side5 ?side6 A6.out).mono ?_); (case side1 => repeat (first | exact (zbd HO1607.out).2.2 | (with_reducible refine zal ?_ _) | (with_reducible refine zam ?_ _) | (with_reducible refine zan ?_))); (case side2 => exact (zbd HO1607.out).2.1); (case side3 => repeat (first | exact (zbd HO1609.out).2.2 | (with_reducible refine zal ?_ _) | (with_reducible refine zam ?_ _) | (with_reducible refine zan ?_))); (case side4 => exact (zbd HO1609.out).2.1); (case side5 => repeat (first | exact (zbd HO1611.out).2.2 | (with_reducible refine zal ?_ _) | (with_reducible refine zam ?_ _) | (with_reducible refine zan ?_))); (case side6 => exact (zbd HO1611.out).2.1); rintro e w13 ⟨rfl, hb⟩; refine ⟨_, rfl, ?_⟩; have n0_ := zad (zbt (tacz) hb); have n1_ := zad (zbt (tada) hb); have n2_ := zad (zbt (tadb) hb); have n3_ := zad (zbe (taaa) hb); clear HO1607 HO1609 HO1611 HB; have HO1607 := n0_; have HO1609 := n1_; have HO1611 := n2_; have HB := n3_; clear n0_ n1_ n2_ n3_; (try clear hb); (try clear hb2); (try clear hk); (try clear hi)) | ((with_reducible refine zbf (f := 77) rfl ?_); refine zbn (some 44) rfl rfl Try.func77 (by kernel_rfl) rfl #[.slice Ao10 t1603.length co10, .slice Ao11 t1604.length co11, .slice Ao12 t1605.length co12] rfl (taad) ?_; (with_reducible refine (spec_IsGiftPath.calls k _ _ t1603 _ _ t1604 _ _ t1605 t1614 t1615 _ ?side1 ?side2 ?side3 ?side4 ?side5 ?side6 A7.out).mono ?_); (case side1 => repeat (first | exact (zbd HO1607.out).2.2 | (with_reducible refine zal ?_ _) | (with_reducible refine zam ?_ _) | (with_reducible refine zan ?_))); (case side2 => exact (zbd HO1607.out).2.1); (case side3 => repeat (first | exact (zbd HO1609.out).2.2 | (with_reducible refine zal ?_ _) | (with_reducible refine zam ?_ _) | (with_reducible refine zan ?_))); (case side4 => exact (zbd HO1609.out).2.1); (case side5 => repeat (first | exact (zbd HO1611.out).2.2 | (with_reducible refine zal ?_ _) | (with_reducible refine zam ?_ _) | (with_reducible refine zan ?_))); (case side6 => exact (zbd HO1611.out).2.1); rintro e w14 ⟨rfl, hb⟩; refine ⟨_, rfl, ?_⟩; have n0_ := zad (zbt (tacz) hb); have n1_ := zad (zbt (tada) hb); have n2_ := zad (zbt (tadb) hb); have n3_ := zad (zbe (taaa) hb); clear HO1607 HO1609 HO1611 HB; have HO1607 := n0_; have HO1609 := n1_; have HO1611 := n2_; have HB := n3_; clear n0_ n1_ n2_ n3_; (try clear hb); (try clear hb2); (try clear hk); (try clear hi)))
   (try simp only [Act.put, zaa, zab, zac])
   go_cut [54] (fun v54 wc => ∃ (kq : Nat) (x54_7 : Bool), v54 = .bool x54_7 ∧ Aside0 (laws_FnAcceptedGiftPaths.j0 kq l1 t1603 t1604 t1605 t1612 x54_7 = some r) ∧ Aside0 (kq ≤ k) ∧ Aside0 (Kd.R (Kd.int .i64) 3 wc w.heap.size (fun k_ => some k_ ≠ ((.slice Ao11 t1604.length co11) : Value).ownBlock) (.slice Ao10 t1603.length co10) t1603) ∧ Aside0 (Kd.R (Kd.int .i64) 3 wc w.heap.size (fun k_ => some k_ ≠ ((.slice Ao10 t1603.length co10) : Value).ownBlock) (.slice Ao11 t1604.length co11) t1604) ∧ Aside0 (Kd.R k39 39 wc w.heap.size (fun _ => True) (.slice Ao12 t1605.length co12) t1605) ∧ Aside0 (Below w.heap.size w wc))
   case first => as_aux_lemma =>
    have H := HC8.out
    clear HC8; by_cases c15 : (t1613 != t1615) = true
    · rw [if_pos c15] at H
      have c15b0 : (t1613 != t1615) = true := c15
      (try (have c15b1 : decide (t1613 = t1615) = false := by simpa using c15))
      (try (have c15b2 : (t1613 == t1615) = false := by simpa using c15))
      (try (have c15b3 : ¬ (t1613 = t1615) := by simpa using c15))
      clear c15; (first | rw [c15b0] | (simp only [zbw, zbx]; rw [c15b0]) | skip)
      have H' := zad H
      clear H; go_wp2
      go_meet
      case rel => exact ⟨_, (true), (taag), H', ⟨tabd⟩, ⟨tacz⟩, ⟨tada⟩, ⟨tadb⟩, ⟨taaa⟩⟩
    · rw [if_neg c15] at H
      have c15b0 : (t1613 != t1615) = false := by simpa using c15
      (try (have c15b1 : decide (t1613 = t1615) = true := by simpa using c15))
      (try (have c15b2 : (t1613 == t1615) = true := by simpa using c15))
      clear c15; (first | rw [c15b0] | (simp only [zbw, zbx]; rw [c15b0]) | skip)
      have H' := zad H
      clear H; go_wp2
      go_meet
      case rel => exact ⟨_, ((t1612 != t1614)), (taag), H', ⟨tabd⟩, ⟨tacz⟩, ⟨tada⟩, ⟨tadb⟩, ⟨taaa⟩⟩
   case rest => as_aux_lemma =>
    clear HC8; try clear c1
    try clear p2
    try clear c4
    try clear c6
    try clear c7
    try clear c12
    try clear c13
    try clear c15
    try clear c15b0
    try clear c15b1
    try clear c15b2
    obtain ⟨kq, x54_7, rfl, HA, HJ7, HO_5, HO_6, HO_7, HB⟩ := hcut
    cases kq with
    | zero => exact absurd HA.out (by simp [laws_FnAcceptedGiftPaths.j0])
    | succ kj7 =>
     have H := HA.out
     clear HA; simp only [laws_FnAcceptedGiftPaths.j0] at H
     by_cases c16 : x54_7 = true
     · subst c16
       have H1 : (some false) = some r := by rw [if_pos rfl] at H; exact H
       clear H; have H := H1; clear H1; obtain rfl := zbc H
       go_wp2
       go_ret
       exact ⟨taah, taaa⟩
     · replace c16 := zbg.mpr c16
       subst c16; have H1 : ((spec_DrawFollowGifts.f kj7 l1).bind fun bt1616 => ((impl_FollowGifts.f kj7 bt1616.1 bt1616.2).bind fun bt1622 => ((spec_FollowGifts.f kj7 bt1616.1 bt1616.2).bind fun bt1626 => (if (bt1622.2 != bt1626.2) = true then (laws_FnAcceptedGiftPaths.j1 kj7 t1603 t1604 t1605 t1612 bt1622.1 true) else ((laws_pSameRows.f kj7 bt1622.1 bt1626.1).bind fun t1630 => (laws_FnAcceptedGiftPaths.j1 kj7 t1603 t1604 t1605 t1612 bt1622.1 (!t1630))))))) = some r := by rw [if_neg (show ¬ (false = true) by decide)] at H; exact H
       clear H; have H := H1; clear H1; replace H := zay.mp H; obtain ⟨⟨t1616, t1617⟩, A170, H⟩ := H
       replace H : ((impl_FollowGifts.f kj7 t1616 t1617).bind fun bt1622 => ((spec_FollowGifts.f kj7 t1616 t1617).bind fun bt1626 => (if (bt1622.2 != bt1626.2) = true then (laws_FnAcceptedGiftPaths.j1 kj7 t1603 t1604 t1605 t1612 bt1622.1 true) else ((laws_pSameRows.f kj7 bt1622.1 bt1626.1).bind fun t1630 => (laws_FnAcceptedGiftPaths.j1 kj7 t1603 t1604 t1605 t1612 bt1622.1 (!t1630)))))) = some r := H
       have A17 := zad A170; clear A170; replace H := zay.mp H; obtain ⟨⟨t1622, t1623⟩, A180, H⟩ := H
       replace H : ((spec_FollowGifts.f kj7 t1616 t1617).bind fun bt1626 => (if (t1623 != bt1626.2) = true then (laws_FnAcceptedGiftPaths.j1 kj7 t1603 t1604 t1605 t1612 t1622 true) else ((laws_pSameRows.f kj7 t1622 bt1626.1).bind fun t1630 => (laws_FnAcceptedGiftPaths.j1 kj7 t1603 t1604 t1605 t1612 t1622 (!t1630))))) = some r := H
       have A18 := zad A180; clear A180; replace H := zay.mp H; obtain ⟨⟨t1626, t1627⟩, A190, H⟩ := H
       replace H : (if (t1623 != t1627) = true then (laws_FnAcceptedGiftPaths.j1 kj7 t1603 t1604 t1605 t1612 t1622 true) else ((laws_pSameRows.f kj7 t1622 t1626).bind fun t1630 => (laws_FnAcceptedGiftPaths.j1 kj7 t1603 t1604 t1605 t1612 t1622 (!t1630)))) = some r := H
       have A19 := zad A190; clear A190; have HC20 := zad H; clear H; go_upto_region 11 with (first | ((with_reducible refine zbf (f := 78) rfl ?_); refine zbn (some 57) rfl rfl Try.func78 (by kernel_rfl) rfl #[.slice A1 l1.length c1] rfl (taad) ?_; (with_reducible refine (spec_DrawFollowGifts.calls kj7 _ _ l1 t1616 t1617 _ ?side1 ?side2 A17.out).mono ?_); (case side1 => repeat (first | exact (Kd.C_below HR1.out HB.out) | (with_reducible refine zal ?_ _) | (with_reducible refine zam ?_ _) | (with_reducible refine zan ?_))); (case side2 => exact HC1.out); rintro e w21 ⟨v1618, v1620, rfl, ho0, ho1, hb⟩; refine ⟨_, rfl, ?_⟩; have n0_ := zad (zcb (taao) (zcd ho0) hb); have n1_ := zad (zcb (taaj) (zcd ho0) hb); have n2_ := zad (zcb (taai) (zcd ho1) hb); have n3_ := zad (zbu (zcc (zcc ho0 (zce (taao))) (zce (taaj))) (zbk (taaa))); have n4_ := zad (zbu (zcc ho1 (zce (taai))) (zbk (taaa))); have n5_ := zad (zbe (taaa) hb); clear HO_5 HO_6 HO_7 HB; have HO_5 := n0_; have HO_6 := n1_; have HO_7 := n2_; have HO1619 := n3_; have HO1621 := n4_; have HB := n5_; clear n0_ n1_ n2_ n3_ n4_ n5_; (try clear hb); (try clear hb2); (try clear hk); (try clear hi); (try clear ho0); (try clear ho1); obtain ⟨Ao22, co22, eo22⟩ := zbv HO1619.out; subst eo22; obtain ⟨Ao23, co23, eo23⟩ := zbv HO1621.out; subst eo23) | ((with_reducible refine zbf (f := 75) rfl ?_); refine zbn (some 63) rfl rfl Try.func75 (by kernel_rfl) rfl #[.slice Ao22 t1616.length co22, .slice Ao23 t1617.length co23] rfl (taad) ?_; (with_reducible refine (impl_FollowGifts.calls kj7 _ _ t1616 _ _ t1617 t1622 t1623 _ ?side1 ?side2 ?side3 ?side4 A18.out).mono ?_); (case side1 => repeat (first | exact (zbd HO1619.out).2.2 | (with_reducible refine zal ?_ _) | (with_reducible refine zam ?_ _) | (with_reducible refine zan ?_))); (case side2 => exact (zbd HO1619.out).2.1); (case side3 => repeat (first | exact (zbd HO1621.out).2.2 | (with_reducible refine zal ?_ _) | (with_reducible refine zam ?_ _) | (with_reducible refine zan ?_))); (case side4 => exact (zbd HO1621.out).2.1); rintro e w24 ⟨v1624, rfl, ho0, hb⟩; refine ⟨_, rfl, ?_⟩; have n0_ := zad (zbt (taao) hb); have n1_ := zad (zbt (taaj) hb); have n2_ := zad (zbt (taai) hb); have n3_ := zad (zbt (tadc) hb); have n4_ := zad (zbt (by (with_reducible repeat (first | apply zai | apply zaj | apply zak)); exact HO1621.out) hb); have n5_ := zad (Kd.S_lower (Kd.S_new' (Kd.S_new' (Kd.S_new' ho0 (zce (taao))) (zce (taaj))) (zce (tadc))) (zbk (taaa))); have n6_ := zad (zbe (taaa) hb); clear HO_5 HO_6 HO_7 HO1619 HO1621 HB; have HO_5 := n0_; have HO_6 := n1_; have HO_7 := n2_; have HO1619 := n3_; have HO1621 := n4_; have HO1625 := n5_; have HB := n6_; clear n0_ n1_ n2_ n3_ n4_ n5_ n6_; (try clear hb); (try clear hb2); (try clear hk); (try clear hi); (try clear ho0)) | ((with_reducible refine zbf (f := 79) rfl ?_); refine zbn (some 69) rfl rfl Try.func79 (by kernel_rfl) rfl #[.slice Ao22 t1616.length co22, .slice Ao23 t1617.length co23] rfl (taad) ?_; (with_reducible refine (spec_FollowGifts.calls kj7 _ _ t1616 _ _ t1617 t1626 t1627 _ ?side1 ?side2 ?side3 ?side4 A19.out).mono ?_); (case side1 => repeat (first | exact (zbd HO1619.out).2.2 | (with_reducible refine zal ?_ _) | (with_reducible refine zam ?_ _) | (with_reducible refine zan ?_))); (case side2 => exact (zbd HO1619.out).2.1); (case side3 => repeat (first | exact (zbd HO1621.out).2.2 | (with_reducible refine zal ?_ _) | (with_reducible refine zam ?_ _) | (with_reducible refine zan ?_))); (case side4 => exact (zbd HO1621.out).2.1); rintro e w25 ⟨v1628, rfl, ho0, hb⟩; refine ⟨_, rfl, ?_⟩; have n0_ := zad (zbt (taao) hb); have n1_ := zad (zbt (taaj) hb); have n2_ := zad (zbt (taai) hb); have n3_ := zad (zbt (tadc) hb); have n4_ := zad (zbt (by (with_reducible repeat (first | apply zai | apply zaj | apply zak)); exact HO1621.out) hb); have n5_ := zad (Kd.S_elder' (by (with_reducible repeat (first | apply Kd.S_alloc | apply Kd.S_drewN | apply Kd.S_drew)); exact HO1625.out) (Kd.S_base ho0) hb); have n6_ := zad (Kd.S_lower (Kd.S_new' (Kd.S_new' (Kd.S_new' (Kd.S_new' ho0 (zce (taao))) (zce (taaj))) (zce (tadc))) (Kd.S_lt (by (with_reducible repeat (first | apply Kd.S_alloc | apply Kd.S_drewN | apply Kd.S_drew)); exact HO1625.out))) (zbk (taaa))); have n7_ := zad (zbe (taaa) hb); clear HO_5 HO_6 HO_7 HO1619 HO1621 HO1625 HB; have HO_5 := n0_; have HO_6 := n1_; have HO_7 := n2_; have HO1619 := n3_; have HO1621 := n4_; have HO1625 := n5_; have HO1629 := n6_; have HB := n7_; clear n0_ n1_ n2_ n3_ n4_ n5_ n6_ n7_; (try clear hb); (try clear hb2); (try clear hk); (try clear hi); (try clear ho0)))
       (try simp only [Act.put, zaa, zab, zac])
       go_cut [80] (fun v80 wc => ∃ (kq : Nat) (x80_19 : Bool), v80 = .bool x80_19 ∧ Aside0 (laws_FnAcceptedGiftPaths.j1 kq t1603 t1604 t1605 t1612 t1622 x80_19 = some r) ∧ Aside0 (kq ≤ kj7) ∧ Aside0 (Kd.R (Kd.int .i64) 3 wc w.heap.size (fun k_ => some k_ ≠ ((.slice Ao11 t1604.length co11) : Value).ownBlock) (.slice Ao10 t1603.length co10) t1603) ∧ Aside0 (Kd.R (Kd.int .i64) 3 wc w.heap.size (fun k_ => some k_ ≠ ((.slice Ao10 t1603.length co10) : Value).ownBlock) (.slice Ao11 t1604.length co11) t1604) ∧ Aside0 (Kd.R k39 39 wc w.heap.size (fun _ => True) (.slice Ao12 t1605.length co12) t1605) ∧ Aside0 (Kd.S (Kd.slice 3 (Kd.int .i64)) 26 wc w.heap.size (fun k_ => some k_ ≠ ((.slice Ao10 t1603.length co10) : Value).ownBlock ∧ some k_ ≠ ((.slice Ao11 t1604.length co11) : Value).ownBlock) v1624 t1622) ∧ Aside0 (Below w.heap.size w wc))
       case first => as_aux_lemma =>
        have H := HC20.out
        clear HC20; by_cases c26 : (t1623 != t1627) = true
        · rw [if_pos c26] at H
          have c26b0 : (t1623 != t1627) = true := c26
          (try (have c26b1 : decide (t1623 = t1627) = false := by simpa using c26))
          (try (have c26b2 : (t1623 == t1627) = false := by simpa using c26))
          (try (have c26b3 : ¬ (t1623 = t1627) := by simpa using c26))
          clear c26; (first | rw [c26b0] | (simp only [zbw, zbx]; rw [c26b0]) | skip)
          have H' := zad H
          clear H; go_wp2
          go_meet
          case rel => exact ⟨_, (true), (taag), H', ⟨by have := HJ7.out; first | omega | exact zcf _⟩, ⟨by (with_reducible repeat (first | apply zai | apply zaj | apply zak)); exact zbq HO_5.out (fun _ hk => hk.1)⟩, ⟨by (with_reducible repeat (first | apply zai | apply zaj | apply zak)); exact zbq HO_6.out (fun _ hk => hk.1)⟩, ⟨by (with_reducible repeat (first | apply zai | apply zaj | apply zak)); exact zbq HO_7.out (fun _ hk => trivial)⟩, ⟨taeb⟩, ⟨taaa⟩⟩
        · rw [if_neg c26] at H
          have c26b0 : (t1623 != t1627) = false := by simpa using c26
          (try (have c26b1 : decide (t1623 = t1627) = true := by simpa using c26))
          (try (have c26b2 : (t1623 == t1627) = true := by simpa using c26))
          clear c26; (first | rw [c26b0] | (simp only [zbw, zbx]; rw [c26b0]) | skip)
          replace H := zay.mp H; obtain ⟨t1630, A270, H⟩ := H
          replace H : (laws_FnAcceptedGiftPaths.j1 kj7 t1603 t1604 t1605 t1612 t1622 (!t1630)) = some r := H
          have A27 := zad A270; clear A270; have H' := zad H
          clear H; obtain ⟨Ao28, co28, eo28⟩ := Kd.S_slice HO1625.out
          subst eo28; obtain ⟨Ao29, co29, eo29⟩ := Kd.S_slice HO1629.out
          subst eo29; go_wp2_with (first | (go_at_call 67; (with_reducible refine (laws_pSameRows.calls kj7 _ _ t1622 _ _ t1626 t1630 _ ?side1 ?side2 ?side3 ?side4 A27.out).mono ?_); (case side1 => repeat (first | exact (Kd.S_reads' HO1625.out).2.2 | (with_reducible refine zal ?_ _) | (with_reducible refine zam ?_ _) | (with_reducible refine zan ?_))); (case side2 => exact (Kd.S_reads' HO1625.out).2.1); (case side3 => repeat (first | exact (Kd.S_reads' HO1629.out).2.2 | (with_reducible refine zal ?_ _) | (with_reducible refine zam ?_ _) | (with_reducible refine zan ?_))); (case side4 => exact (Kd.S_reads' HO1629.out).2.1); rintro e w' ⟨rfl, ⟨nd, rfl⟩⟩))
          go_meet
          case rel => exact ⟨_, (!t1630), (taag), H', ⟨by have := HJ7.out; first | omega | exact zcf _⟩, ⟨by (with_reducible repeat (first | apply zai | apply zaj | apply zak)); exact zbq HO_5.out (fun _ hk => hk.1)⟩, ⟨by (with_reducible repeat (first | apply zai | apply zaj | apply zak)); exact zbq HO_6.out (fun _ hk => hk.1)⟩, ⟨by (with_reducible repeat (first | apply zai | apply zaj | apply zak)); exact zbq HO_7.out (fun _ hk => trivial)⟩, ⟨taeb⟩, ⟨taaa⟩⟩
       case rest => as_aux_lemma =>
        clear HC20; try clear c1
        try clear c2
        try clear p2
        try clear c4
        try clear c6
        try clear c7
        try clear c12
        try clear c13
        try clear c15
        try clear c15b0
        try clear c15b1
        try clear c15b2
        try clear c16
        try clear c26
        try clear c26b0
        try clear c26b1
        try clear c26b2
        try clear p2
        obtain ⟨kq, x80_19, rfl, HA, HJ19, HO_5, HO_6, HO_7, HO_14, HB⟩ := hcut
        cases kq with
        | zero => exact absurd HA.out (by simp [laws_FnAcceptedGiftPaths.j1])
        | succ kj19 =>
         have H := HA.out
         clear HA; simp only [laws_FnAcceptedGiftPaths.j1] at H
         by_cases c30 : x80_19 = true
         · subst c30
           have H1 : (some false) = some r := by rw [if_pos rfl] at H; exact H
           clear H; have H := H1; clear H1; obtain rfl := zbc H
           go_wp2
           go_ret
           exact ⟨taah, taaa⟩
         · replace c30 := zbg.mpr c30
           subst c30; have H1 : (laws_FnAcceptedGiftPaths.l0 kj19 t1603 t1604 t1605 t1612 t1622 1) = some r := by rw [if_neg (show ¬ (false = true) by decide)] at H; exact H
           clear H; have H := H1; clear H1; have H' := zad H
           clear H; go_wp2
           go_loopg [18] kj19 (fun kq v18 w' => ∃ (x18_3 : Int), v18 = .int .i64 x18_3 ∧ Aside0 (laws_FnAcceptedGiftPaths.l0 kq t1603 t1604 t1605 t1612 t1622 x18_3 = some r) ∧ Aside0 (kq ≤ kj19) ∧ Aside0 (Kd.R (Kd.int .i64) 3 w' w.heap.size (fun k_ => some k_ ≠ ((.slice Ao11 t1604.length co11) : Value).ownBlock) (.slice Ao10 t1603.length co10) t1603) ∧ Aside0 (Kd.R (Kd.int .i64) 3 w' w.heap.size (fun k_ => some k_ ≠ ((.slice Ao10 t1603.length co10) : Value).ownBlock) (.slice Ao11 t1604.length co11) t1604) ∧ Aside0 (Kd.R k39 39 w' w.heap.size (fun _ => True) (.slice Ao12 t1605.length co12) t1605) ∧ Aside0 (Kd.S (Kd.slice 3 (Kd.int .i64)) 26 w' w.heap.size (fun k_ => some k_ ≠ ((.slice Ao10 t1603.length co10) : Value).ownBlock ∧ some k_ ≠ ((.slice Ao11 t1604.length co11) : Value).ownBlock) v1624 t1622) ∧ Aside0 (Below w.heap.size w w'))
           case atStart => exact ⟨(1), (taag), H', ⟨zcf _⟩, ⟨taao⟩, ⟨taaj⟩, ⟨taai⟩, ⟨tabi⟩, ⟨taaa⟩⟩
           case round =>
            clear H'
            try clear c1
            try clear c2
            try clear p2
            try clear c3
            try clear c4
            try clear c6
            try clear c7
            try clear c12
            try clear c13
            try clear c15
            try clear c15b0
            try clear c15b1
            try clear c15b2
            try clear c16
            try clear c26
            try clear c26b0
            try clear c26b1
            try clear c26b2
            try clear c30
            try clear p2
            obtain ⟨x18_3, rfl, HA, HK3, HO_5, HO_6, HO_7, HO_14, HB⟩ := hrel
            cases gk with
            | zero => exact absurd HA.out (by simp [laws_FnAcceptedGiftPaths.l0])
            | succ k3 =>
             have H := HA.out
             clear HA; simp only [laws_FnAcceptedGiftPaths.l0] at H
             by_cases c31 : x18_3 < (t1622.length : Int)
             · rw [if_pos c31] at H
               have c31b0 : decide (x18_3 < (t1622.length : Int)) = true := zba c31
               clear c31; by_cases c32 : 0 ≤ x18_3
               · rw [if_pos c32] at H
                 have c32b0 : decide (0 ≤ x18_3) = true := zba c32
                 clear c32; obtain ⟨ji33, hji33⟩ : ∃ j_ : Int, (wrap64 (x18_3 - 1)) = j_ := ⟨_, rfl⟩
                 replace H : (if 0 ≤ (ji33) then (if (ji33) < (t1622.length : Int) then ((laws_pBelow.f k3 (rd_L2 t1622 x18_3) (rd_L2 t1622 (ji33))).bind fun t1633 => (if t1633 = true then ((laws_pBelow.f k3 (rd_L2 t1622 (ji33)) (rd_L2 t1622 x18_3)).bind fun t1636 => (if t1636 = true then (some false) else (laws_FnAcceptedGiftPaths.l0 k3 t1603 t1604 t1605 t1612 t1622 (wrap64 (x18_3 + 1))))) else (some false))) else (none)) else (none)) = some r := by first | (rw [hji33] at H; exact H) | (simp only [hji33] at H ⊢; exact H)
                 have hji33w : (IntKind.i64.wrap (x18_3 - 1)) = ji33 := (zbw _).trans hji33
                 by_cases c34 : 0 ≤ (ji33)
                 · rw [if_pos c34] at H
                   have c34b0 : decide (0 ≤ (ji33)) = true := zba c34
                   clear c34; by_cases c35 : (ji33) < (t1622.length : Int)
                   · rw [if_pos c35] at H
                     have c35b0 : decide ((ji33) < (t1622.length : Int)) = true := zba c35
                     clear c35; replace H := zay.mp H; obtain ⟨t1633, A360, H⟩ := H
                     replace H : (if t1633 = true then ((laws_pBelow.f k3 (rd_L2 t1622 (ji33)) (rd_L2 t1622 x18_3)).bind fun t1636 => (if t1636 = true then (some false) else (laws_FnAcceptedGiftPaths.l0 k3 t1603 t1604 t1605 t1612 t1622 (wrap64 (x18_3 + 1))))) else (some false)) = some r := H
                     have A36 := zad A360; clear A360; by_cases c37 : t1633 = true
                     · subst c37
                       have H1 : ((laws_pBelow.f k3 (rd_L2 t1622 (ji33)) (rd_L2 t1622 x18_3)).bind fun t1636 => (if t1636 = true then (some false) else (laws_FnAcceptedGiftPaths.l0 k3 t1603 t1604 t1605 t1612 t1622 (wrap64 (x18_3 + 1))))) = some r := by rw [if_pos rfl] at H; exact H
                       clear H; have H := H1; clear H1; replace H := zay.mp H; obtain ⟨t1636, A380, H⟩ := H
                       replace H : (if t1636 = true then (some false) else (laws_FnAcceptedGiftPaths.l0 k3 t1603 t1604 t1605 t1612 t1622 (wrap64 (x18_3 + 1)))) = some r := H
                       have A38 := zad A380; clear A380; by_cases c39 : t1636 = true
                       · subst c39
                         have H1 : (some false) = some r := by rw [if_pos rfl] at H; exact H
                         clear H; have H := H1; clear H1; obtain rfl := zbc H
                         obtain ⟨Ao40, co40, eo40⟩ := Kd.S_slice HO_14.out
                         subst eo40; try go_wp2
                         have n0_ := zad (zak HO_5.out)
                         have n1_ := zad (zak HO_6.out)
                         have n2_ := zad (zak HO_7.out)
                         have n3_ := zad (Kd.S_drew HO_14.out)
                         have n4_ := zad (zaf HB.out)
                         clear HO_5 HO_6 HO_7 HO_14 HB; have HO_5 := n0_; have HO_6 := n1_; have HO_7 := n2_; have HO_14 := n3_; have HB := n4_; clear n0_ n1_ n2_ n3_ n4_; have p1631 : 0 ≤ (x18_3 : Int) := zas (taab)
                         have q1631 : x18_3 < (t1622.length : Int) := zas (taab)
                         obtain ⟨ad1631, A1631_0, c1631_0, e1631, hx1631_0, hl1631_0, hi1631_0⟩ := at_L2 (Kd.S_reads' HO_14.out).2.2 x18_3 p1631 q1631
                         cases e1631
                         obtain ⟨ce1631, hce1631, hMe1631, hcc1631⟩ := Kd.S_get HO_14.out [] x18_3 p1631 (taeo)
                         obtain ⟨ve1631_0, rfl, ge1631_0⟩ := hMe1631
                         have hv1631_0 := hcc1631 0 _ rfl
                         rw [Nat.add_zero, show ((Kd.slice 3 (Kd.int .i64))).sz = 1 from rfl, Nat.mul_one] at hv1631_0
                         replace hv1631_0 := zbc (hv1631_0.symm.trans hx1631_0)
                         rw [hv1631_0] at ge1631_0
                         have HL1631_0 := zad (show Kd.R (Kd.int .i64) 3 _ _ _ _ (rd_L2 t1622 x18_3) from ge1631_0)
                         clear hv1631_0 ge1631_0 hcc1631 hce1631; have HR1631_0 := zad hi1631_0; have HC1631_0 := zad hl1631_0; clear hi1631_0 hl1631_0; replace p1631 := eq_true p1631
                         replace q1631 := eq_true q1631
                         have p1632 : 0 ≤ ((ji33) : Int) := zas (taab)
                         have q1632 : (ji33) < (t1622.length : Int) := zas (taab)
                         obtain ⟨ad1632, A1632_0, c1632_0, e1632, hx1632_0, hl1632_0, hi1632_0⟩ := at_L2 (Kd.S_reads' HO_14.out).2.2 (ji33) p1632 q1632
                         obtain rfl : ad1631 = ad1632 := (by injection e1632)
                         obtain ⟨ce1632, hce1632, hMe1632, hcc1632⟩ := Kd.S_get HO_14.out [] (ji33) p1632 (taep)
                         obtain ⟨ve1632_0, rfl, ge1632_0⟩ := hMe1632
                         have hv1632_0 := hcc1632 0 _ rfl
                         rw [Nat.add_zero, show ((Kd.slice 3 (Kd.int .i64))).sz = 1 from rfl, Nat.mul_one] at hv1632_0
                         replace hv1632_0 := zbc (hv1632_0.symm.trans hx1632_0)
                         rw [hv1632_0] at ge1632_0
                         have HL1632_0 := zad (show Kd.R (Kd.int .i64) 3 _ _ _ _ (rd_L2 t1622 (ji33)) from ge1632_0)
                         clear hv1632_0 ge1632_0 hcc1632 hce1632; have HR1632_0 := zad hi1632_0; have HC1632_0 := zad hl1632_0; clear hi1632_0 hl1632_0; replace p1632 := eq_true p1632
                         replace q1632 := eq_true q1632
                         have p1634 : 0 ≤ ((ji33) : Int) := zas (taab)
                         have q1634 : (ji33) < (t1622.length : Int) := zas (taab)
                         obtain ⟨ad1634, A1634_0, c1634_0, e1634, hx1634_0, hl1634_0, hi1634_0⟩ := at_L2 (Kd.S_reads' HO_14.out).2.2 (ji33) p1634 q1634
                         obtain rfl : ad1631 = ad1634 := (by injection e1634)
                         obtain ⟨rfl, rfl⟩ : A1632_0 = A1634_0 ∧ c1632_0 = c1634_0 := (by have z_ := zbc (hx1632_0.symm.trans hx1634_0); injection z_ with z1 z2 z3; exact ⟨z1, z3⟩)
                         obtain ⟨ce1634, hce1634, hMe1634, hcc1634⟩ := Kd.S_get HO_14.out [] (ji33) p1634 (by first | exact q1634 | exact zas (taab) | (have e_ := (Kd.S_reads' HO_14.out).1; omega))
                         obtain ⟨ve1634_0, rfl, ge1634_0⟩ := hMe1634
                         have hv1634_0 := hcc1634 0 _ rfl
                         rw [Nat.add_zero, show ((Kd.slice 3 (Kd.int .i64))).sz = 1 from rfl, Nat.mul_one] at hv1634_0
                         replace hv1634_0 := zbc (hv1634_0.symm.trans hx1634_0)
                         rw [hv1634_0] at ge1634_0
                         have HL1634_0 := zad (show Kd.R (Kd.int .i64) 3 _ _ _ _ (rd_L2 t1622 (ji33)) from ge1634_0)
                         clear hv1634_0 ge1634_0 hcc1634 hce1634; have HR1634_0 := zad hi1634_0; have HC1634_0 := zad hl1634_0; clear hi1634_0 hl1634_0; replace p1634 := eq_true p1634
                         replace q1634 := eq_true q1634
                         have p1635 : 0 ≤ (x18_3 : Int) := zas (taab)
                         have q1635 : x18_3 < (t1622.length : Int) := zas (taab)
                         obtain ⟨ad1635, A1635_0, c1635_0, e1635, hx1635_0, hl1635_0, hi1635_0⟩ := at_L2 (Kd.S_reads' HO_14.out).2.2 x18_3 p1635 q1635
                         obtain rfl : ad1631 = ad1635 := (by injection e1635)
                         obtain ⟨rfl, rfl⟩ : A1631_0 = A1635_0 ∧ c1631_0 = c1635_0 := (by have z_ := zbc (hx1631_0.symm.trans hx1635_0); injection z_ with z1 z2 z3; exact ⟨z1, z3⟩)
                         obtain ⟨ce1635, hce1635, hMe1635, hcc1635⟩ := Kd.S_get HO_14.out [] x18_3 p1635 (by first | exact q1635 | exact zas (taab) | (have e_ := (Kd.S_reads' HO_14.out).1; omega))
                         obtain ⟨ve1635_0, rfl, ge1635_0⟩ := hMe1635
                         have hv1635_0 := hcc1635 0 _ rfl
                         rw [Nat.add_zero, show ((Kd.slice 3 (Kd.int .i64))).sz = 1 from rfl, Nat.mul_one] at hv1635_0
                         replace hv1635_0 := zbc (hv1635_0.symm.trans hx1635_0)
                         rw [hv1635_0] at ge1635_0
                         have HL1635_0 := zad (show Kd.R (Kd.int .i64) 3 _ _ _ _ (rd_L2 t1622 x18_3) from ge1635_0)
                         clear hv1635_0 ge1635_0 hcc1635 hce1635; have HR1635_0 := zad hi1635_0; have HC1635_0 := zad hl1635_0; clear hi1635_0 hl1635_0; replace p1635 := eq_true p1635
                         replace q1635 := eq_true q1635
                         refine start_ (n := 23) (S := fun w' => w'.cell? (ad1631.add (x18_3).toNat) = some (.slice A1631_0 (rd_L2 t1622 x18_3).length c1631_0) ∧ w'.cell? (ad1631.add ((ji33)).toNat) = some (.slice A1632_0 (rd_L2 t1622 (ji33)).length c1632_0) ∧ w'.cell? (ad1631.add ((ji33)).toNat) = some (.slice A1632_0 (rd_L2 t1622 (ji33)).length c1632_0) ∧ w'.cell? (ad1631.add (x18_3).toNat) = some (.slice A1631_0 (rd_L2 t1622 x18_3).length c1631_0)) (ds := []) #[false, false, false, false, false, false, false, false, false, false, false, false, false, false, false, false, false, false, false, false, false, false, false] (by kernel_rfl) rfl rfl ⟨hx1631_0, hx1632_0, hx1634_0, hx1635_0⟩ (fun hHeld => ?_); refine with_tabW laws_FnAcceptedGiftPaths.tab16 laws_FnAcceptedGiftPaths.bits16 (fun HT_ HW_ => ?_)
                         generalize wr.drew = w41 at HO_5 HO_6 HO_7 HO_14 HB HL1631_0 HL1632_0 HL1634_0 HL1635_0 HR1631_0 HR1632_0 HR1634_0 HR1635_0 hx1631_0 hx1632_0 hx1634_0 hx1635_0 hHeld ⊢
                         refine pure_ (i := 0) (N := some 87) (v := ?_) (a' := ?_) tagp rfl rfl (zby HT_.out (by kernel_rfl)) (fun _ _ _ h => h) (Or.inl ⟨by rfl, ?_⟩) ?_ ?_
                         rotate_left
                         · intro w'
                           go_simp; with_reducible rfl
                         rotate_left
                         · simp only [Act.put, zaa, zab, zac, zbw, zbx]
                           rfl
                         refine pure_ (i := 1) (N := some 88) (v := ?_) (a' := ?_) tagq rfl rfl (zby HT_.out (by kernel_rfl)) (fun _ _ _ h => h) (Or.inl ⟨by rfl, ?_⟩) ?_ ?_
                         rotate_left
                         · intro w'
                           go_simp; with_reducible rfl
                         rotate_left
                         · simp only [Act.put, zaa, zab, zac, zbw, zbx]
                           rfl
                         refine pure_ (i := 2) (N := some 89) (v := ?_) (a' := ?_) tajq rfl rfl (zby HT_.out (by kernel_rfl)) (fun _ _ _ h => h) (Or.inl ⟨by rfl, ?_⟩) ?_ ?_
                         rotate_left
                         · intro w'
                           go_simp; with_reducible rfl
                         rotate_left
                         · simp only [Act.put, zaa, zab, zac, zbw, zbx]
                           rfl
                         refine pure_ (i := 4) (N := some 91) (v := ?_) (a' := ?_) tajr rfl rfl (zby HT_.out (by kernel_rfl)) (fun _ _ _ h => h) (Or.inl ⟨by rfl, ?_⟩) ?_ ?_
                         rotate_left
                         · intro w'
                           go_simp; with_reducible rfl
                         rotate_left
                         · simp only [Act.put, zaa, zab, zac, zbw, zbx]
                           rfl
                         refine pure_ (i := 5) (N := some 92) (v := ?_) (a' := ?_) tajs rfl rfl (zby HT_.out (by kernel_rfl)) (fun _ _ _ h => h) (Or.inl ⟨by rfl, ?_⟩) ?_ ?_
                         rotate_left
                         · intro w'
                           go_simp; with_reducible rfl
                         rotate_left
                         · simp only [Act.put, zaa, zab, zac, zbw, zbx]
                           rfl
                         refine pure_ (i := 6) (N := some 93) (v := ?_) (a' := ?_) tajt rfl rfl (zby HT_.out (by kernel_rfl)) (fun _ _ _ h => h) (Or.inl ⟨by rfl, ?_⟩) ?_ ?_
                         rotate_left
                         · intro w'
                           go_simp; with_reducible rfl
                         rotate_left
                         · simp only [Act.put, zaa, zab, zac, zbw, zbx]
                           rfl
                         refine pure_ (i := 7) (N := some 94) (v := ?_) (a' := ?_) taju rfl rfl (zby HT_.out (by kernel_rfl)) (fun _ _ _ h => h) (Or.inl ⟨by rfl, ?_⟩) ?_ ?_
                         rotate_left
                         · intro w'
                           go_simp; with_reducible rfl
                         rotate_left
                         · simp only [Act.put, zaa, zab, zac, zbw, zbx]
                           rfl
                         refine take_ (i := 3) (N := some 90) (v := ?_) (a' := ?_) tahb rfl rfl (zbz HT_.out HW_.out (by kernel_rfl)) (fun _ _ _ h => h) (Or.inl ⟨by rfl, ?_⟩) hHeld ?_ ?_
                         rotate_left
                         · rintro w' ⟨s0, s1, s2, s3⟩
                           go_simp; with_reducible rfl
                         rotate_left
                         · simp only [Act.put, zaa, zab, zac, zbw, zbx]
                           rfl
                         refine take_ (i := 8) (N := some 95) (v := ?_) (a' := ?_) tahc rfl rfl (zbz HT_.out HW_.out (by kernel_rfl)) (fun _ _ _ h => h) (Or.inl ⟨by rfl, ?_⟩) hHeld ?_ ?_
                         rotate_left
                         · rintro w' ⟨s0, s1, s2, s3⟩
                           go_simp; with_reducible rfl
                         rotate_left
                         · simp only [Act.put, zaa, zab, zac, zbw, zbx]
                           rfl
                         refine one_ (i := 9) (N := some 96) #[true, true, true, true, true, true, true, true, true, true, false, false, false, false, false, false, false, false, false, false, false, false, false] rfl rfl (one_of HT_.out (by kernel_rfl)) (by decide) (fun K hK => ?_)
                         refine goes_ Try.func22 (by kernel_rfl) rfl #[.slice A1631_0 (rd_L2 t1622 x18_3).length c1631_0, .slice A1632_0 (rd_L2 t1622 (ji33)).length c1632_0] (by rfl) rfl rfl (taci) ?_
                         with_reducible refine (laws_pBelow.calls k3 _ _ (rd_L2 t1622 x18_3) _ _ (rd_L2 t1622 (ji33)) true _ ?side1 ?side2 ?side3 ?side4 A36.out).mono ?_
                         (case side1 => exact tafc)
                         (case side2 => exact HC1631_0.out)
                         (case side3 => exact tafd)
                         (case side4 => exact HC1632_0.out)
                         rintro e w42 ⟨rfl, hb⟩
                         have HS0_ := (hb.cell (zaz _ _ (hHeld.1))).trans (hHeld.1)
                         have HS1_ := (hb.cell (zaz _ _ (hHeld.2.1))).trans (hHeld.2.1)
                         have HS2_ := (hb.cell (zaz _ _ (hHeld.2.2.1))).trans (hHeld.2.2.1)
                         have HS3_ := (hb.cell (zaz _ _ (hHeld.2.2.2))).trans (hHeld.2.2.2)
                         refine ⟨_, rfl, ?_⟩
                         have n0_ := zad (zbt (taao) hb)
                         have n1_ := zad (zbt (taaj) hb)
                         have n2_ := zad (zbt (taai) hb)
                         have n3_ := zad (Kd.S_below (tabi) hb)
                         have n4_ := zad (zbt (tacj) hb)
                         have n5_ := zad (zbt (tack) hb)
                         have n6_ := zad (Kd.C_below (tabj) hb)
                         have n7_ := zad (Kd.C_below (tabk) hb)
                         have n8_ := zad (zbe (taaa) hb)
                         clear HO_5 HO_6 HO_7 HO_14 HL1631_0 HL1632_0 HR1631_0 HR1632_0 HB; have HO_5 := n0_; have HO_6 := n1_; have HO_7 := n2_; have HO_14 := n3_; have HL1631_0 := n4_; (try clear HL1635_0); have HL1635_0 := HL1631_0
                         have HL1632_0 := n5_; (try clear HL1634_0); have HL1634_0 := HL1632_0
                         have HR1631_0 := n6_; (try clear HR1635_0); have HR1635_0 := HR1631_0
                         have HR1632_0 := n7_; (try clear HR1634_0); have HR1634_0 := HR1632_0
                         have HB := n8_; clear n0_ n1_ n2_ n3_ n4_ n5_ n6_ n7_ n8_; (try clear hb); (try clear hb2); (try clear hk); (try clear hi); refine hK.out _ _ ⟨HS0_, HS1_, HS2_, HS3_⟩ (fun hHeld => ?_)
                         clear hK K; refine norm_ (a' := ?_) ?_ ?_
                         rotate_left
                         · show Act.put _ (some 96) _ = _
                           simp only [Act.put, zaa, zab, zac, zbw, zbx]
                           rfl
                         refine pure_ (i := 10) (N := some 97) (v := ?_) (a' := ?_) tahd rfl rfl (zby HT_.out (by kernel_rfl)) (fun _ _ _ h => h) (Or.inl ⟨by rfl, ?_⟩) ?_ ?_
                         rotate_left
                         · intro w'
                           go_simp; with_reducible rfl
                         rotate_left
                         · simp only [Act.put, zaa, zab, zac, zbw, zbx]
                           rfl
                         refine pure_ (i := 11) (N := some 98) (v := ?_) (a' := ?_) tahe rfl rfl (zby HT_.out (by kernel_rfl)) (fun _ _ _ h => h) (Or.inl ⟨by rfl, ?_⟩) ?_ ?_
                         rotate_left
                         · intro w'
                           go_simp; with_reducible rfl
                         rotate_left
                         · simp only [Act.put, zaa, zab, zac, zbw, zbx]
                           rfl
                         refine pure_ (i := 12) (N := some 99) (v := ?_) (a' := ?_) tahf rfl rfl (zby HT_.out (by kernel_rfl)) (fun _ _ _ h => h) (Or.inl ⟨by rfl, ?_⟩) ?_ ?_
                         rotate_left
                         · intro w'
                           go_simp; with_reducible rfl
                         rotate_left
                         · simp only [Act.put, zaa, zab, zac, zbw, zbx]
                           rfl
                         refine pure_ (i := 13) (N := some 100) (v := ?_) (a' := ?_) tahg rfl rfl (zby HT_.out (by kernel_rfl)) (fun _ _ _ h => h) (Or.inl ⟨by rfl, ?_⟩) ?_ ?_
                         rotate_left
                         · intro w'
                           go_simp; with_reducible rfl
                         rotate_left
                         · simp only [Act.put, zaa, zab, zac, zbw, zbx]
                           rfl
                         refine pure_ (i := 14) (N := some 101) (v := ?_) (a' := ?_) tahh rfl rfl (zby HT_.out (by kernel_rfl)) (fun _ _ _ h => h) (Or.inl ⟨by rfl, ?_⟩) ?_ ?_
                         rotate_left
                         · intro w'
                           go_simp; with_reducible rfl
                         rotate_left
                         · simp only [Act.put, zaa, zab, zac, zbw, zbx]
                           rfl
                         refine pure_ (i := 15) (N := some 102) (v := ?_) (a' := ?_) tahi rfl rfl (zby HT_.out (by kernel_rfl)) (fun _ _ _ h => h) (Or.inl ⟨by rfl, ?_⟩) ?_ ?_
                         rotate_left
                         · intro w'
                           go_simp; with_reducible rfl
                         rotate_left
                         · simp only [Act.put, zaa, zab, zac, zbw, zbx]
                           rfl
                         refine pure_ (i := 17) (N := some 104) (v := ?_) (a' := ?_) tagu rfl rfl (zby HT_.out (by kernel_rfl)) (fun _ _ _ h => h) (Or.inl ⟨by rfl, ?_⟩) ?_ ?_
                         rotate_left
                         · intro w'
                           go_simp; with_reducible rfl
                         rotate_left
                         · simp only [Act.put, zaa, zab, zac, zbw, zbx]
                           rfl
                         refine pure_ (i := 18) (N := some 105) (v := ?_) (a' := ?_) tajv rfl rfl (zby HT_.out (by kernel_rfl)) (fun _ _ _ h => h) (Or.inl ⟨by rfl, ?_⟩) ?_ ?_
                         rotate_left
                         · intro w'
                           go_simp; with_reducible rfl
                         rotate_left
                         · simp only [Act.put, zaa, zab, zac, zbw, zbx]
                           rfl
                         refine pure_ (i := 19) (N := some 106) (v := ?_) (a' := ?_) tajw rfl rfl (zby HT_.out (by kernel_rfl)) (fun _ _ _ h => h) (Or.inl ⟨by rfl, ?_⟩) ?_ ?_
                         rotate_left
                         · intro w'
                           go_simp; with_reducible rfl
                         rotate_left
                         · simp only [Act.put, zaa, zab, zac, zbw, zbx]
                           rfl
                         refine take_ (i := 16) (N := some 103) (v := ?_) (a' := ?_) tagx rfl rfl (zbz HT_.out HW_.out (by kernel_rfl)) (fun _ _ _ h => h) (Or.inl ⟨by rfl, ?_⟩) hHeld ?_ ?_
                         rotate_left
                         · rintro w' ⟨s0, s1, s2, s3⟩
                           go_simp; with_reducible rfl
                         rotate_left
                         · simp only [Act.put, zaa, zab, zac, zbw, zbx]
                           rfl
                         refine take_ (i := 20) (N := some 107) (v := ?_) (a' := ?_) tagy rfl rfl (zbz HT_.out HW_.out (by kernel_rfl)) (fun _ _ _ h => h) (Or.inl ⟨by rfl, ?_⟩) hHeld ?_ ?_
                         rotate_left
                         · rintro w' ⟨s0, s1, s2, s3⟩
                           go_simp; with_reducible rfl
                         rotate_left
                         · simp only [Act.put, zaa, zab, zac, zbw, zbx]
                           rfl
                         refine one_ (i := 21) (N := some 108) #[true, true, true, true, true, true, true, true, true, true, true, true, true, true, true, true, true, true, true, true, true, true, false] rfl rfl (one_of HT_.out (by kernel_rfl)) (by decide) (fun K hK => ?_)
                         refine goes_ Try.func22 (by kernel_rfl) rfl #[.slice A1632_0 (rd_L2 t1622 (ji33)).length c1632_0, .slice A1631_0 (rd_L2 t1622 x18_3).length c1631_0] (by rfl) rfl rfl (taci) ?_
                         with_reducible refine (laws_pBelow.calls k3 _ _ (rd_L2 t1622 (ji33)) _ _ (rd_L2 t1622 x18_3) true _ ?side1 ?side2 ?side3 ?side4 A38.out).mono ?_
                         (case side1 => repeat (first | exact (tadd) | (with_reducible refine zal ?_ _) | (with_reducible refine zam ?_ _) | (with_reducible refine zan ?_)))
                         (case side2 => exact HC1634_0.out)
                         (case side3 => repeat (first | exact (tade) | (with_reducible refine zal ?_ _) | (with_reducible refine zam ?_ _) | (with_reducible refine zan ?_)))
                         (case side4 => exact HC1635_0.out)
                         rintro e w43 ⟨rfl, hb⟩
                         have HS0_ := (hb.cell (zaz _ _ (hHeld.1))).trans (hHeld.1)
                         have HS1_ := (hb.cell (zaz _ _ (hHeld.2.1))).trans (hHeld.2.1)
                         have HS2_ := (hb.cell (zaz _ _ (hHeld.2.2.1))).trans (hHeld.2.2.1)
                         have HS3_ := (hb.cell (zaz _ _ (hHeld.2.2.2))).trans (hHeld.2.2.2)
                         refine ⟨_, rfl, ?_⟩
                         have n0_ := zad (zbt (taao) hb)
                         have n1_ := zad (zbt (taaj) hb)
                         have n2_ := zad (zbt (taai) hb)
                         have n3_ := zad (Kd.S_below (tabi) hb)
                         have n4_ := zad (zbt (tacj) hb)
                         have n5_ := zad (zbt (tack) hb)
                         have n6_ := zad (zbt (by (with_reducible repeat (first | apply zai | apply zaj | apply zak)); exact HL1634_0.out) hb)
                         have n7_ := zad (zbt (by (with_reducible repeat (first | apply zai | apply zaj | apply zak)); exact HL1635_0.out) hb)
                         have n8_ := zad (Kd.C_below (tabj) hb)
                         have n9_ := zad (Kd.C_below (tabk) hb)
                         have n10_ := zad (Kd.C_below (tadd) hb)
                         have n11_ := zad (Kd.C_below (tade) hb)
                         have n12_ := zad (zbe (taaa) hb)
                         clear HO_5 HO_6 HO_7 HO_14 HL1631_0 HL1632_0 HL1634_0 HL1635_0 HR1631_0 HR1632_0 HR1634_0 HR1635_0 HB; have HO_5 := n0_; have HO_6 := n1_; have HO_7 := n2_; have HO_14 := n3_; have HL1631_0 := n4_; (try clear HL1635_0); have HL1635_0 := HL1631_0
                         have HL1632_0 := n5_; (try clear HL1634_0); have HL1634_0 := HL1632_0
                         have HL1634_0 := n6_; have HL1635_0 := n7_; have HR1631_0 := n8_; (try clear HR1635_0); have HR1635_0 := HR1631_0
                         have HR1632_0 := n9_; (try clear HR1634_0); have HR1634_0 := HR1632_0
                         have HR1634_0 := n10_; have HR1635_0 := n11_; have HB := n12_; clear n0_ n1_ n2_ n3_ n4_ n5_ n6_ n7_ n8_ n9_ n10_ n11_ n12_; (try clear hb); (try clear hb2); (try clear hk); (try clear hi); refine hK.out _ _ ⟨HS0_, HS1_, HS2_, HS3_⟩ (fun hHeld => ?_)
                         clear hK K; refine norm_ (a' := ?_) ?_ ?_
                         rotate_left
                         · show Act.put _ (some 108) _ = _
                           simp only [Act.put, zaa, zab, zac, zbw, zbx]
                           rfl
                         refine pure_ (i := 22) (N := some 109) (v := ?_) (a' := ?_) taha rfl rfl (zby HT_.out (by kernel_rfl)) (fun _ _ _ h => h) (Or.inl ⟨by rfl, ?_⟩) ?_ ?_
                         rotate_left
                         · intro w'
                           go_simp; with_reducible rfl
                         rotate_left
                         · simp only [Act.put, zaa, zab, zac, zbw, zbx]
                           rfl
                         refine done_ (done_of HT_.out (by kernel_rfl)) ?_
                         try go_wp2
                         go_ret
                         exact ⟨taec, taaa⟩
                       · replace c39 := zbg.mpr c39
                         subst c39; have H1 : (laws_FnAcceptedGiftPaths.l0 k3 t1603 t1604 t1605 t1612 t1622 (wrap64 (x18_3 + 1))) = some r := by rw [if_neg (show ¬ (false = true) by decide)] at H; exact H
                         clear H; have H := H1; clear H1; have H' := zad H
                         clear H; obtain ⟨Ao44, co44, eo44⟩ := Kd.S_slice HO_14.out
                         subst eo44; try go_wp2
                         have n0_ := zad (zak HO_5.out)
                         have n1_ := zad (zak HO_6.out)
                         have n2_ := zad (zak HO_7.out)
                         have n3_ := zad (Kd.S_drew HO_14.out)
                         have n4_ := zad (zaf HB.out)
                         clear HO_5 HO_6 HO_7 HO_14 HB; have HO_5 := n0_; have HO_6 := n1_; have HO_7 := n2_; have HO_14 := n3_; have HB := n4_; clear n0_ n1_ n2_ n3_ n4_; have p1631 : 0 ≤ (x18_3 : Int) := zas (taab)
                         have q1631 : x18_3 < (t1622.length : Int) := zas (taab)
                         obtain ⟨ad1631, A1631_0, c1631_0, e1631, hx1631_0, hl1631_0, hi1631_0⟩ := at_L2 (Kd.S_reads' HO_14.out).2.2 x18_3 p1631 q1631
                         cases e1631
                         obtain ⟨ce1631, hce1631, hMe1631, hcc1631⟩ := Kd.S_get HO_14.out [] x18_3 p1631 (taeo)
                         obtain ⟨ve1631_0, rfl, ge1631_0⟩ := hMe1631
                         have hv1631_0 := hcc1631 0 _ rfl
                         rw [Nat.add_zero, show ((Kd.slice 3 (Kd.int .i64))).sz = 1 from rfl, Nat.mul_one] at hv1631_0
                         replace hv1631_0 := zbc (hv1631_0.symm.trans hx1631_0)
                         rw [hv1631_0] at ge1631_0
                         have HL1631_0 := zad (show Kd.R (Kd.int .i64) 3 _ _ _ _ (rd_L2 t1622 x18_3) from ge1631_0)
                         clear hv1631_0 ge1631_0 hcc1631 hce1631; have HR1631_0 := zad hi1631_0; have HC1631_0 := zad hl1631_0; clear hi1631_0 hl1631_0; replace p1631 := eq_true p1631
                         replace q1631 := eq_true q1631
                         have p1632 : 0 ≤ ((ji33) : Int) := zas (taab)
                         have q1632 : (ji33) < (t1622.length : Int) := zas (taab)
                         obtain ⟨ad1632, A1632_0, c1632_0, e1632, hx1632_0, hl1632_0, hi1632_0⟩ := at_L2 (Kd.S_reads' HO_14.out).2.2 (ji33) p1632 q1632
                         obtain rfl : ad1631 = ad1632 := (by injection e1632)
                         obtain ⟨ce1632, hce1632, hMe1632, hcc1632⟩ := Kd.S_get HO_14.out [] (ji33) p1632 (taep)
                         obtain ⟨ve1632_0, rfl, ge1632_0⟩ := hMe1632
                         have hv1632_0 := hcc1632 0 _ rfl
                         rw [Nat.add_zero, show ((Kd.slice 3 (Kd.int .i64))).sz = 1 from rfl, Nat.mul_one] at hv1632_0
                         replace hv1632_0 := zbc (hv1632_0.symm.trans hx1632_0)
                         rw [hv1632_0] at ge1632_0
                         have HL1632_0 := zad (show Kd.R (Kd.int .i64) 3 _ _ _ _ (rd_L2 t1622 (ji33)) from ge1632_0)
                         clear hv1632_0 ge1632_0 hcc1632 hce1632; have HR1632_0 := zad hi1632_0; have HC1632_0 := zad hl1632_0; clear hi1632_0 hl1632_0; replace p1632 := eq_true p1632
                         replace q1632 := eq_true q1632
                         have p1634 : 0 ≤ ((ji33) : Int) := zas (taab)
                         have q1634 : (ji33) < (t1622.length : Int) := zas (taab)
                         obtain ⟨ad1634, A1634_0, c1634_0, e1634, hx1634_0, hl1634_0, hi1634_0⟩ := at_L2 (Kd.S_reads' HO_14.out).2.2 (ji33) p1634 q1634
                         obtain rfl : ad1631 = ad1634 := (by injection e1634)
                         obtain ⟨rfl, rfl⟩ : A1632_0 = A1634_0 ∧ c1632_0 = c1634_0 := (by have z_ := zbc (hx1632_0.symm.trans hx1634_0); injection z_ with z1 z2 z3; exact ⟨z1, z3⟩)
                         obtain ⟨ce1634, hce1634, hMe1634, hcc1634⟩ := Kd.S_get HO_14.out [] (ji33) p1634 (by first | exact q1634 | exact zas (taab) | (have e_ := (Kd.S_reads' HO_14.out).1; omega))
                         obtain ⟨ve1634_0, rfl, ge1634_0⟩ := hMe1634
                         have hv1634_0 := hcc1634 0 _ rfl
                         rw [Nat.add_zero, show ((Kd.slice 3 (Kd.int .i64))).sz = 1 from rfl, Nat.mul_one] at hv1634_0
                         replace hv1634_0 := zbc (hv1634_0.symm.trans hx1634_0)
                         rw [hv1634_0] at ge1634_0
                         have HL1634_0 := zad (show Kd.R (Kd.int .i64) 3 _ _ _ _ (rd_L2 t1622 (ji33)) from ge1634_0)
                         clear hv1634_0 ge1634_0 hcc1634 hce1634; have HR1634_0 := zad hi1634_0; have HC1634_0 := zad hl1634_0; clear hi1634_0 hl1634_0; replace p1634 := eq_true p1634
                         replace q1634 := eq_true q1634
                         have p1635 : 0 ≤ (x18_3 : Int) := zas (taab)
                         have q1635 : x18_3 < (t1622.length : Int) := zas (taab)
                         obtain ⟨ad1635, A1635_0, c1635_0, e1635, hx1635_0, hl1635_0, hi1635_0⟩ := at_L2 (Kd.S_reads' HO_14.out).2.2 x18_3 p1635 q1635
                         obtain rfl : ad1631 = ad1635 := (by injection e1635)
                         obtain ⟨rfl, rfl⟩ : A1631_0 = A1635_0 ∧ c1631_0 = c1635_0 := (by have z_ := zbc (hx1631_0.symm.trans hx1635_0); injection z_ with z1 z2 z3; exact ⟨z1, z3⟩)
                         obtain ⟨ce1635, hce1635, hMe1635, hcc1635⟩ := Kd.S_get HO_14.out [] x18_3 p1635 (by first | exact q1635 | exact zas (taab) | (have e_ := (Kd.S_reads' HO_14.out).1; omega))
                         obtain ⟨ve1635_0, rfl, ge1635_0⟩ := hMe1635
                         have hv1635_0 := hcc1635 0 _ rfl
                         rw [Nat.add_zero, show ((Kd.slice 3 (Kd.int .i64))).sz = 1 from rfl, Nat.mul_one] at hv1635_0
                         replace hv1635_0 := zbc (hv1635_0.symm.trans hx1635_0)
                         rw [hv1635_0] at ge1635_0
                         have HL1635_0 := zad (show Kd.R (Kd.int .i64) 3 _ _ _ _ (rd_L2 t1622 x18_3) from ge1635_0)
                         clear hv1635_0 ge1635_0 hcc1635 hce1635; have HR1635_0 := zad hi1635_0; have HC1635_0 := zad hl1635_0; clear hi1635_0 hl1635_0; replace p1635 := eq_true p1635
                         replace q1635 := eq_true q1635
                         refine start_ (n := 23) (S := fun w' => w'.cell? (ad1631.add (x18_3).toNat) = some (.slice A1631_0 (rd_L2 t1622 x18_3).length c1631_0) ∧ w'.cell? (ad1631.add ((ji33)).toNat) = some (.slice A1632_0 (rd_L2 t1622 (ji33)).length c1632_0) ∧ w'.cell? (ad1631.add ((ji33)).toNat) = some (.slice A1632_0 (rd_L2 t1622 (ji33)).length c1632_0) ∧ w'.cell? (ad1631.add (x18_3).toNat) = some (.slice A1631_0 (rd_L2 t1622 x18_3).length c1631_0)) (ds := []) #[false, false, false, false, false, false, false, false, false, false, false, false, false, false, false, false, false, false, false, false, false, false, false] (by kernel_rfl) rfl rfl ⟨hx1631_0, hx1632_0, hx1634_0, hx1635_0⟩ (fun hHeld => ?_); refine with_tabW laws_FnAcceptedGiftPaths.tab16 laws_FnAcceptedGiftPaths.bits16 (fun HT_ HW_ => ?_)
                         generalize wr.drew = w45 at HO_5 HO_6 HO_7 HO_14 HB HL1631_0 HL1632_0 HL1634_0 HL1635_0 HR1631_0 HR1632_0 HR1634_0 HR1635_0 hx1631_0 hx1632_0 hx1634_0 hx1635_0 hHeld ⊢
                         refine pure_ (i := 0) (N := some 87) (v := ?_) (a' := ?_) tagp rfl rfl (zby HT_.out (by kernel_rfl)) (fun _ _ _ h => h) (Or.inl ⟨by rfl, ?_⟩) ?_ ?_
                         rotate_left
                         · intro w'
                           go_simp; with_reducible rfl
                         rotate_left
                         · simp only [Act.put, zaa, zab, zac, zbw, zbx]
                           rfl
                         refine pure_ (i := 1) (N := some 88) (v := ?_) (a' := ?_) tagq rfl rfl (zby HT_.out (by kernel_rfl)) (fun _ _ _ h => h) (Or.inl ⟨by rfl, ?_⟩) ?_ ?_
                         rotate_left
                         · intro w'
                           go_simp; with_reducible rfl
                         rotate_left
                         · simp only [Act.put, zaa, zab, zac, zbw, zbx]
                           rfl
                         refine pure_ (i := 2) (N := some 89) (v := ?_) (a' := ?_) tajq rfl rfl (zby HT_.out (by kernel_rfl)) (fun _ _ _ h => h) (Or.inl ⟨by rfl, ?_⟩) ?_ ?_
                         rotate_left
                         · intro w'
                           go_simp; with_reducible rfl
                         rotate_left
                         · simp only [Act.put, zaa, zab, zac, zbw, zbx]
                           rfl
                         refine pure_ (i := 4) (N := some 91) (v := ?_) (a' := ?_) tajr rfl rfl (zby HT_.out (by kernel_rfl)) (fun _ _ _ h => h) (Or.inl ⟨by rfl, ?_⟩) ?_ ?_
                         rotate_left
                         · intro w'
                           go_simp; with_reducible rfl
                         rotate_left
                         · simp only [Act.put, zaa, zab, zac, zbw, zbx]
                           rfl
                         refine pure_ (i := 5) (N := some 92) (v := ?_) (a' := ?_) tajs rfl rfl (zby HT_.out (by kernel_rfl)) (fun _ _ _ h => h) (Or.inl ⟨by rfl, ?_⟩) ?_ ?_
                         rotate_left
                         · intro w'
                           go_simp; with_reducible rfl
                         rotate_left
                         · simp only [Act.put, zaa, zab, zac, zbw, zbx]
                           rfl
                         refine pure_ (i := 6) (N := some 93) (v := ?_) (a' := ?_) tajt rfl rfl (zby HT_.out (by kernel_rfl)) (fun _ _ _ h => h) (Or.inl ⟨by rfl, ?_⟩) ?_ ?_
                         rotate_left
                         · intro w'
                           go_simp; with_reducible rfl
                         rotate_left
                         · simp only [Act.put, zaa, zab, zac, zbw, zbx]
                           rfl
                         refine pure_ (i := 7) (N := some 94) (v := ?_) (a' := ?_) taju rfl rfl (zby HT_.out (by kernel_rfl)) (fun _ _ _ h => h) (Or.inl ⟨by rfl, ?_⟩) ?_ ?_
                         rotate_left
                         · intro w'
                           go_simp; with_reducible rfl
                         rotate_left
                         · simp only [Act.put, zaa, zab, zac, zbw, zbx]
                           rfl
                         refine take_ (i := 3) (N := some 90) (v := ?_) (a' := ?_) tahb rfl rfl (zbz HT_.out HW_.out (by kernel_rfl)) (fun _ _ _ h => h) (Or.inl ⟨by rfl, ?_⟩) hHeld ?_ ?_
                         rotate_left
                         · rintro w' ⟨s0, s1, s2, s3⟩
                           go_simp; with_reducible rfl
                         rotate_left
                         · simp only [Act.put, zaa, zab, zac, zbw, zbx]
                           rfl
                         refine take_ (i := 8) (N := some 95) (v := ?_) (a' := ?_) tahc rfl rfl (zbz HT_.out HW_.out (by kernel_rfl)) (fun _ _ _ h => h) (Or.inl ⟨by rfl, ?_⟩) hHeld ?_ ?_
                         rotate_left
                         · rintro w' ⟨s0, s1, s2, s3⟩
                           go_simp; with_reducible rfl
                         rotate_left
                         · simp only [Act.put, zaa, zab, zac, zbw, zbx]
                           rfl
                         refine one_ (i := 9) (N := some 96) #[true, true, true, true, true, true, true, true, true, true, false, false, false, false, false, false, false, false, false, false, false, false, false] rfl rfl (one_of HT_.out (by kernel_rfl)) (by decide) (fun K hK => ?_)
                         refine goes_ Try.func22 (by kernel_rfl) rfl #[.slice A1631_0 (rd_L2 t1622 x18_3).length c1631_0, .slice A1632_0 (rd_L2 t1622 (ji33)).length c1632_0] (by rfl) rfl rfl (taci) ?_
                         with_reducible refine (laws_pBelow.calls k3 _ _ (rd_L2 t1622 x18_3) _ _ (rd_L2 t1622 (ji33)) true _ ?side1 ?side2 ?side3 ?side4 A36.out).mono ?_
                         (case side1 => exact tafc)
                         (case side2 => exact HC1631_0.out)
                         (case side3 => exact tafd)
                         (case side4 => exact HC1632_0.out)
                         rintro e w46 ⟨rfl, hb⟩
                         have HS0_ := (hb.cell (zaz _ _ (hHeld.1))).trans (hHeld.1)
                         have HS1_ := (hb.cell (zaz _ _ (hHeld.2.1))).trans (hHeld.2.1)
                         have HS2_ := (hb.cell (zaz _ _ (hHeld.2.2.1))).trans (hHeld.2.2.1)
                         have HS3_ := (hb.cell (zaz _ _ (hHeld.2.2.2))).trans (hHeld.2.2.2)
                         refine ⟨_, rfl, ?_⟩
                         have n0_ := zad (zbt (taao) hb)
                         have n1_ := zad (zbt (taaj) hb)
                         have n2_ := zad (zbt (taai) hb)
                         have n3_ := zad (Kd.S_below (tabi) hb)
                         have n4_ := zad (zbt (tacj) hb)
                         have n5_ := zad (zbt (tack) hb)
                         have n6_ := zad (Kd.C_below (tabj) hb)
                         have n7_ := zad (Kd.C_below (tabk) hb)
                         have n8_ := zad (zbe (taaa) hb)
                         clear HO_5 HO_6 HO_7 HO_14 HL1631_0 HL1632_0 HR1631_0 HR1632_0 HB; have HO_5 := n0_; have HO_6 := n1_; have HO_7 := n2_; have HO_14 := n3_; have HL1631_0 := n4_; (try clear HL1635_0); have HL1635_0 := HL1631_0
                         have HL1632_0 := n5_; (try clear HL1634_0); have HL1634_0 := HL1632_0
                         have HR1631_0 := n6_; (try clear HR1635_0); have HR1635_0 := HR1631_0
                         have HR1632_0 := n7_; (try clear HR1634_0); have HR1634_0 := HR1632_0
                         have HB := n8_; clear n0_ n1_ n2_ n3_ n4_ n5_ n6_ n7_ n8_; (try clear hb); (try clear hb2); (try clear hk); (try clear hi); refine hK.out _ _ ⟨HS0_, HS1_, HS2_, HS3_⟩ (fun hHeld => ?_)
                         clear hK K; refine norm_ (a' := ?_) ?_ ?_
                         rotate_left
                         · show Act.put _ (some 96) _ = _
                           simp only [Act.put, zaa, zab, zac, zbw, zbx]
                           rfl
                         refine pure_ (i := 10) (N := some 97) (v := ?_) (a' := ?_) tahd rfl rfl (zby HT_.out (by kernel_rfl)) (fun _ _ _ h => h) (Or.inl ⟨by rfl, ?_⟩) ?_ ?_
                         rotate_left
                         · intro w'
                           go_simp; with_reducible rfl
                         rotate_left
                         · simp only [Act.put, zaa, zab, zac, zbw, zbx]
                           rfl
                         refine pure_ (i := 11) (N := some 98) (v := ?_) (a' := ?_) tahe rfl rfl (zby HT_.out (by kernel_rfl)) (fun _ _ _ h => h) (Or.inl ⟨by rfl, ?_⟩) ?_ ?_
                         rotate_left
                         · intro w'
                           go_simp; with_reducible rfl
                         rotate_left
                         · simp only [Act.put, zaa, zab, zac, zbw, zbx]
                           rfl
                         refine pure_ (i := 12) (N := some 99) (v := ?_) (a' := ?_) tahf rfl rfl (zby HT_.out (by kernel_rfl)) (fun _ _ _ h => h) (Or.inl ⟨by rfl, ?_⟩) ?_ ?_
                         rotate_left
                         · intro w'
                           go_simp; with_reducible rfl
                         rotate_left
                         · simp only [Act.put, zaa, zab, zac, zbw, zbx]
                           rfl
                         refine pure_ (i := 13) (N := some 100) (v := ?_) (a' := ?_) tahg rfl rfl (zby HT_.out (by kernel_rfl)) (fun _ _ _ h => h) (Or.inl ⟨by rfl, ?_⟩) ?_ ?_
                         rotate_left
                         · intro w'
                           go_simp; with_reducible rfl
                         rotate_left
                         · simp only [Act.put, zaa, zab, zac, zbw, zbx]
                           rfl
                         refine pure_ (i := 14) (N := some 101) (v := ?_) (a' := ?_) tahh rfl rfl (zby HT_.out (by kernel_rfl)) (fun _ _ _ h => h) (Or.inl ⟨by rfl, ?_⟩) ?_ ?_
                         rotate_left
                         · intro w'
                           go_simp; with_reducible rfl
                         rotate_left
                         · simp only [Act.put, zaa, zab, zac, zbw, zbx]
                           rfl
                         refine pure_ (i := 15) (N := some 102) (v := ?_) (a' := ?_) tahi rfl rfl (zby HT_.out (by kernel_rfl)) (fun _ _ _ h => h) (Or.inl ⟨by rfl, ?_⟩) ?_ ?_
                         rotate_left
                         · intro w'
                           go_simp; with_reducible rfl
                         rotate_left
                         · simp only [Act.put, zaa, zab, zac, zbw, zbx]
                           rfl
                         refine pure_ (i := 17) (N := some 104) (v := ?_) (a' := ?_) tagu rfl rfl (zby HT_.out (by kernel_rfl)) (fun _ _ _ h => h) (Or.inl ⟨by rfl, ?_⟩) ?_ ?_
                         rotate_left
                         · intro w'
                           go_simp; with_reducible rfl
                         rotate_left
                         · simp only [Act.put, zaa, zab, zac, zbw, zbx]
                           rfl
                         refine pure_ (i := 18) (N := some 105) (v := ?_) (a' := ?_) tajv rfl rfl (zby HT_.out (by kernel_rfl)) (fun _ _ _ h => h) (Or.inl ⟨by rfl, ?_⟩) ?_ ?_
                         rotate_left
                         · intro w'
                           go_simp; with_reducible rfl
                         rotate_left
                         · simp only [Act.put, zaa, zab, zac, zbw, zbx]
                           rfl
                         refine pure_ (i := 19) (N := some 106) (v := ?_) (a' := ?_) tajw rfl rfl (zby HT_.out (by kernel_rfl)) (fun _ _ _ h => h) (Or.inl ⟨by rfl, ?_⟩) ?_ ?_
                         rotate_left
                         · intro w'
                           go_simp; with_reducible rfl
                         rotate_left
                         · simp only [Act.put, zaa, zab, zac, zbw, zbx]
                           rfl
                         refine take_ (i := 16) (N := some 103) (v := ?_) (a' := ?_) tagx rfl rfl (zbz HT_.out HW_.out (by kernel_rfl)) (fun _ _ _ h => h) (Or.inl ⟨by rfl, ?_⟩) hHeld ?_ ?_
                         rotate_left
                         · rintro w' ⟨s0, s1, s2, s3⟩
                           go_simp; with_reducible rfl
                         rotate_left
                         · simp only [Act.put, zaa, zab, zac, zbw, zbx]
                           rfl
                         refine take_ (i := 20) (N := some 107) (v := ?_) (a' := ?_) tagy rfl rfl (zbz HT_.out HW_.out (by kernel_rfl)) (fun _ _ _ h => h) (Or.inl ⟨by rfl, ?_⟩) hHeld ?_ ?_
                         rotate_left
                         · rintro w' ⟨s0, s1, s2, s3⟩
                           go_simp; with_reducible rfl
                         rotate_left
                         · simp only [Act.put, zaa, zab, zac, zbw, zbx]
                           rfl
                         refine one_ (i := 21) (N := some 108) #[true, true, true, true, true, true, true, true, true, true, true, true, true, true, true, true, true, true, true, true, true, true, false] rfl rfl (one_of HT_.out (by kernel_rfl)) (by decide) (fun K hK => ?_)
                         refine goes_ Try.func22 (by kernel_rfl) rfl #[.slice A1632_0 (rd_L2 t1622 (ji33)).length c1632_0, .slice A1631_0 (rd_L2 t1622 x18_3).length c1631_0] (by rfl) rfl rfl (taci) ?_
                         with_reducible refine (laws_pBelow.calls k3 _ _ (rd_L2 t1622 (ji33)) _ _ (rd_L2 t1622 x18_3) false _ ?side1 ?side2 ?side3 ?side4 A38.out).mono ?_
                         (case side1 => repeat (first | exact (tadd) | (with_reducible refine zal ?_ _) | (with_reducible refine zam ?_ _) | (with_reducible refine zan ?_)))
                         (case side2 => exact HC1634_0.out)
                         (case side3 => repeat (first | exact (tade) | (with_reducible refine zal ?_ _) | (with_reducible refine zam ?_ _) | (with_reducible refine zan ?_)))
                         (case side4 => exact HC1635_0.out)
                         rintro e w47 ⟨rfl, hb⟩
                         have HS0_ := (hb.cell (zaz _ _ (hHeld.1))).trans (hHeld.1)
                         have HS1_ := (hb.cell (zaz _ _ (hHeld.2.1))).trans (hHeld.2.1)
                         have HS2_ := (hb.cell (zaz _ _ (hHeld.2.2.1))).trans (hHeld.2.2.1)
                         have HS3_ := (hb.cell (zaz _ _ (hHeld.2.2.2))).trans (hHeld.2.2.2)
                         refine ⟨_, rfl, ?_⟩
                         have n0_ := zad (zbt (taao) hb)
                         have n1_ := zad (zbt (taaj) hb)
                         have n2_ := zad (zbt (taai) hb)
                         have n3_ := zad (Kd.S_below (tabi) hb)
                         have n4_ := zad (zbt (tacj) hb)
                         have n5_ := zad (zbt (tack) hb)
                         have n6_ := zad (zbt (by (with_reducible repeat (first | apply zai | apply zaj | apply zak)); exact HL1634_0.out) hb)
                         have n7_ := zad (zbt (by (with_reducible repeat (first | apply zai | apply zaj | apply zak)); exact HL1635_0.out) hb)
                         have n8_ := zad (Kd.C_below (tabj) hb)
                         have n9_ := zad (Kd.C_below (tabk) hb)
                         have n10_ := zad (Kd.C_below (tadd) hb)
                         have n11_ := zad (Kd.C_below (tade) hb)
                         have n12_ := zad (zbe (taaa) hb)
                         clear HO_5 HO_6 HO_7 HO_14 HL1631_0 HL1632_0 HL1634_0 HL1635_0 HR1631_0 HR1632_0 HR1634_0 HR1635_0 HB; have HO_5 := n0_; have HO_6 := n1_; have HO_7 := n2_; have HO_14 := n3_; have HL1631_0 := n4_; (try clear HL1635_0); have HL1635_0 := HL1631_0
                         have HL1632_0 := n5_; (try clear HL1634_0); have HL1634_0 := HL1632_0
                         have HL1634_0 := n6_; have HL1635_0 := n7_; have HR1631_0 := n8_; (try clear HR1635_0); have HR1635_0 := HR1631_0
                         have HR1632_0 := n9_; (try clear HR1634_0); have HR1634_0 := HR1632_0
                         have HR1634_0 := n10_; have HR1635_0 := n11_; have HB := n12_; clear n0_ n1_ n2_ n3_ n4_ n5_ n6_ n7_ n8_ n9_ n10_ n11_ n12_; (try clear hb); (try clear hb2); (try clear hk); (try clear hi); refine hK.out _ _ ⟨HS0_, HS1_, HS2_, HS3_⟩ (fun hHeld => ?_)
                         clear hK K; refine norm_ (a' := ?_) ?_ ?_
                         rotate_left
                         · show Act.put _ (some 108) _ = _
                           simp only [Act.put, zaa, zab, zac, zbw, zbx]
                           rfl
                         refine pure_ (i := 22) (N := some 109) (v := ?_) (a' := ?_) taha rfl rfl (zby HT_.out (by kernel_rfl)) (fun _ _ _ h => h) (Or.inl ⟨by rfl, ?_⟩) ?_ ?_
                         rotate_left
                         · intro w'
                           go_simp; with_reducible rfl
                         rotate_left
                         · simp only [Act.put, zaa, zab, zac, zbw, zbx]
                           rfl
                         refine done_ (done_of HT_.out (by kernel_rfl)) ?_
                         try go_wp2
                         go_roundg k3
                         case measure => have := HJ7.out; have := HJ19.out; have := HK3.out; omega
                         case rel => exact ⟨(wrap64 (x18_3 + 1)), (taag), H', ⟨by have := HJ7.out; have := HJ19.out; have := HK3.out; omega⟩, ⟨taao⟩, ⟨taaj⟩, ⟨taai⟩, ⟨tabi⟩, ⟨taaa⟩⟩
                     · replace c37 := zbg.mpr c37
                       subst c37; have H1 : (some false) = some r := by rw [if_neg (show ¬ (false = true) by decide)] at H; exact H
                       clear H; have H := H1; clear H1; obtain rfl := zbc H
                       obtain ⟨Ao48, co48, eo48⟩ := Kd.S_slice HO_14.out
                       subst eo48; try go_wp2
                       have n0_ := zad (zak HO_5.out)
                       have n1_ := zad (zak HO_6.out)
                       have n2_ := zad (zak HO_7.out)
                       have n3_ := zad (Kd.S_drew HO_14.out)
                       have n4_ := zad (zaf HB.out)
                       clear HO_5 HO_6 HO_7 HO_14 HB; have HO_5 := n0_; have HO_6 := n1_; have HO_7 := n2_; have HO_14 := n3_; have HB := n4_; clear n0_ n1_ n2_ n3_ n4_; have p1631 : 0 ≤ (x18_3 : Int) := zas (taab)
                       have q1631 : x18_3 < (t1622.length : Int) := zas (taab)
                       obtain ⟨ad1631, A1631_0, c1631_0, e1631, hx1631_0, hl1631_0, hi1631_0⟩ := at_L2 (Kd.S_reads' HO_14.out).2.2 x18_3 p1631 q1631
                       cases e1631
                       obtain ⟨ce1631, hce1631, hMe1631, hcc1631⟩ := Kd.S_get HO_14.out [] x18_3 p1631 (taeo)
                       obtain ⟨ve1631_0, rfl, ge1631_0⟩ := hMe1631
                       have hv1631_0 := hcc1631 0 _ rfl
                       rw [Nat.add_zero, show ((Kd.slice 3 (Kd.int .i64))).sz = 1 from rfl, Nat.mul_one] at hv1631_0
                       replace hv1631_0 := zbc (hv1631_0.symm.trans hx1631_0)
                       rw [hv1631_0] at ge1631_0
                       have HL1631_0 := zad (show Kd.R (Kd.int .i64) 3 _ _ _ _ (rd_L2 t1622 x18_3) from ge1631_0)
                       clear hv1631_0 ge1631_0 hcc1631 hce1631; have HR1631_0 := zad hi1631_0; have HC1631_0 := zad hl1631_0; clear hi1631_0 hl1631_0; replace p1631 := eq_true p1631
                       replace q1631 := eq_true q1631
                       have p1632 : 0 ≤ ((ji33) : Int) := zas (taab)
                       have q1632 : (ji33) < (t1622.length : Int) := zas (taab)
                       obtain ⟨ad1632, A1632_0, c1632_0, e1632, hx1632_0, hl1632_0, hi1632_0⟩ := at_L2 (Kd.S_reads' HO_14.out).2.2 (ji33) p1632 q1632
                       obtain rfl : ad1631 = ad1632 := (by injection e1632)
                       obtain ⟨ce1632, hce1632, hMe1632, hcc1632⟩ := Kd.S_get HO_14.out [] (ji33) p1632 (taep)
                       obtain ⟨ve1632_0, rfl, ge1632_0⟩ := hMe1632
                       have hv1632_0 := hcc1632 0 _ rfl
                       rw [Nat.add_zero, show ((Kd.slice 3 (Kd.int .i64))).sz = 1 from rfl, Nat.mul_one] at hv1632_0
                       replace hv1632_0 := zbc (hv1632_0.symm.trans hx1632_0)
                       rw [hv1632_0] at ge1632_0
                       have HL1632_0 := zad (show Kd.R (Kd.int .i64) 3 _ _ _ _ (rd_L2 t1622 (ji33)) from ge1632_0)
                       clear hv1632_0 ge1632_0 hcc1632 hce1632; have HR1632_0 := zad hi1632_0; have HC1632_0 := zad hl1632_0; clear hi1632_0 hl1632_0; replace p1632 := eq_true p1632
                       replace q1632 := eq_true q1632
                       refine start_ (n := 23) (S := fun w' => w'.cell? (ad1631.add (x18_3).toNat) = some (.slice A1631_0 (rd_L2 t1622 x18_3).length c1631_0) ∧ w'.cell? (ad1631.add ((ji33)).toNat) = some (.slice A1632_0 (rd_L2 t1622 (ji33)).length c1632_0)) (ds := []) #[false, false, false, false, false, false, false, false, false, false, false, false, false, false, false, false, false, false, false, false, false, false, false] (by kernel_rfl) rfl rfl ⟨hx1631_0, hx1632_0⟩ (fun hHeld => ?_); refine with_tabW laws_FnAcceptedGiftPaths.tab16 laws_FnAcceptedGiftPaths.bits16 (fun HT_ HW_ => ?_)
                       generalize wr.drew = w49 at HO_5 HO_6 HO_7 HO_14 HB HL1631_0 HL1632_0 HR1631_0 HR1632_0 hx1631_0 hx1632_0 hHeld ⊢
                       refine pure_ (i := 0) (N := some 87) (v := ?_) (a' := ?_) tagp rfl rfl (zby HT_.out (by kernel_rfl)) (fun _ _ _ h => h) (Or.inl ⟨by rfl, ?_⟩) ?_ ?_
                       rotate_left
                       · intro w'
                         go_simp; with_reducible rfl
                       rotate_left
                       · simp only [Act.put, zaa, zab, zac, zbw, zbx]
                         rfl
                       refine pure_ (i := 1) (N := some 88) (v := ?_) (a' := ?_) tagq rfl rfl (zby HT_.out (by kernel_rfl)) (fun _ _ _ h => h) (Or.inl ⟨by rfl, ?_⟩) ?_ ?_
                       rotate_left
                       · intro w'
                         go_simp; with_reducible rfl
                       rotate_left
                       · simp only [Act.put, zaa, zab, zac, zbw, zbx]
                         rfl
                       refine pure_ (i := 2) (N := some 89) (v := ?_) (a' := ?_) tajq rfl rfl (zby HT_.out (by kernel_rfl)) (fun _ _ _ h => h) (Or.inl ⟨by rfl, ?_⟩) ?_ ?_
                       rotate_left
                       · intro w'
                         go_simp; with_reducible rfl
                       rotate_left
                       · simp only [Act.put, zaa, zab, zac, zbw, zbx]
                         rfl
                       refine pure_ (i := 4) (N := some 91) (v := ?_) (a' := ?_) tajr rfl rfl (zby HT_.out (by kernel_rfl)) (fun _ _ _ h => h) (Or.inl ⟨by rfl, ?_⟩) ?_ ?_
                       rotate_left
                       · intro w'
                         go_simp; with_reducible rfl
                       rotate_left
                       · simp only [Act.put, zaa, zab, zac, zbw, zbx]
                         rfl
                       refine pure_ (i := 5) (N := some 92) (v := ?_) (a' := ?_) tajs rfl rfl (zby HT_.out (by kernel_rfl)) (fun _ _ _ h => h) (Or.inl ⟨by rfl, ?_⟩) ?_ ?_
                       rotate_left
                       · intro w'
                         go_simp; with_reducible rfl
                       rotate_left
                       · simp only [Act.put, zaa, zab, zac, zbw, zbx]
                         rfl
                       refine pure_ (i := 6) (N := some 93) (v := ?_) (a' := ?_) tajt rfl rfl (zby HT_.out (by kernel_rfl)) (fun _ _ _ h => h) (Or.inl ⟨by rfl, ?_⟩) ?_ ?_
                       rotate_left
                       · intro w'
                         go_simp; with_reducible rfl
                       rotate_left
                       · simp only [Act.put, zaa, zab, zac, zbw, zbx]
                         rfl
                       refine pure_ (i := 7) (N := some 94) (v := ?_) (a' := ?_) taju rfl rfl (zby HT_.out (by kernel_rfl)) (fun _ _ _ h => h) (Or.inl ⟨by rfl, ?_⟩) ?_ ?_
                       rotate_left
                       · intro w'
                         go_simp; with_reducible rfl
                       rotate_left
                       · simp only [Act.put, zaa, zab, zac, zbw, zbx]
                         rfl
                       refine take_ (i := 3) (N := some 90) (v := ?_) (a' := ?_) tahb rfl rfl (zbz HT_.out HW_.out (by kernel_rfl)) (fun _ _ _ h => h) (Or.inl ⟨by rfl, ?_⟩) hHeld ?_ ?_
                       rotate_left
                       · rintro w' ⟨s0, s1⟩
                         go_simp; with_reducible rfl
                       rotate_left
                       · simp only [Act.put, zaa, zab, zac, zbw, zbx]
                         rfl
                       refine take_ (i := 8) (N := some 95) (v := ?_) (a' := ?_) tahc rfl rfl (zbz HT_.out HW_.out (by kernel_rfl)) (fun _ _ _ h => h) (Or.inl ⟨by rfl, ?_⟩) hHeld ?_ ?_
                       rotate_left
                       · rintro w' ⟨s0, s1⟩
                         go_simp; with_reducible rfl
                       rotate_left
                       · simp only [Act.put, zaa, zab, zac, zbw, zbx]
                         rfl
                       refine one_ (i := 9) (N := some 96) #[true, true, true, true, true, true, true, true, true, true, false, false, false, false, false, false, false, false, false, false, false, false, false] rfl rfl (one_of HT_.out (by kernel_rfl)) (by decide) (fun K hK => ?_)
                       refine goes_ Try.func22 (by kernel_rfl) rfl #[.slice A1631_0 (rd_L2 t1622 x18_3).length c1631_0, .slice A1632_0 (rd_L2 t1622 (ji33)).length c1632_0] (by rfl) rfl rfl (taci) ?_
                       with_reducible refine (laws_pBelow.calls k3 _ _ (rd_L2 t1622 x18_3) _ _ (rd_L2 t1622 (ji33)) false _ ?side1 ?side2 ?side3 ?side4 A36.out).mono ?_
                       (case side1 => exact tafc)
                       (case side2 => exact HC1631_0.out)
                       (case side3 => exact tafd)
                       (case side4 => exact HC1632_0.out)
                       rintro e w50 ⟨rfl, hb⟩
                       have HS0_ := (hb.cell (zaz _ _ (hHeld.1))).trans (hHeld.1)
                       have HS1_ := (hb.cell (zaz _ _ (hHeld.2))).trans (hHeld.2)
                       refine ⟨_, rfl, ?_⟩
                       have n0_ := zad (zbt (taao) hb)
                       have n1_ := zad (zbt (taaj) hb)
                       have n2_ := zad (zbt (taai) hb)
                       have n3_ := zad (Kd.S_below (tabi) hb)
                       have n4_ := zad (zbt (tacj) hb)
                       have n5_ := zad (zbt (tack) hb)
                       have n6_ := zad (Kd.C_below (tabj) hb)
                       have n7_ := zad (Kd.C_below (tabk) hb)
                       have n8_ := zad (zbe (taaa) hb)
                       clear HO_5 HO_6 HO_7 HO_14 HL1631_0 HL1632_0 HR1631_0 HR1632_0 HB; have HO_5 := n0_; have HO_6 := n1_; have HO_7 := n2_; have HO_14 := n3_; have HL1631_0 := n4_; (try clear HL1635_0); have HL1635_0 := HL1631_0
                       have HL1632_0 := n5_; (try clear HL1634_0); have HL1634_0 := HL1632_0
                       have HR1631_0 := n6_; (try clear HR1635_0); have HR1635_0 := HR1631_0
                       have HR1632_0 := n7_; (try clear HR1634_0); have HR1634_0 := HR1632_0
                       have HB := n8_; clear n0_ n1_ n2_ n3_ n4_ n5_ n6_ n7_ n8_; (try clear hb); (try clear hb2); (try clear hk); (try clear hi); refine hK.out _ _ ⟨HS0_, HS1_⟩ (fun hHeld => ?_)
                       clear hK K; refine norm_ (a' := ?_) ?_ ?_
                       rotate_left
                       · show Act.put _ (some 96) _ = _
                         simp only [Act.put, zaa, zab, zac, zbw, zbx]
                         rfl
                       refine pure_ (i := 10) (N := some 97) (v := ?_) (a' := ?_) tahd rfl rfl (zby HT_.out (by kernel_rfl)) (fun _ _ _ h => h) (Or.inl ⟨by rfl, ?_⟩) ?_ ?_
                       rotate_left
                       · intro w'
                         go_simp; with_reducible rfl
                       rotate_left
                       · simp only [Act.put, zaa, zab, zac, zbw, zbx]
                         rfl
                       refine pure_ (i := 11) (N := some 98) (v := ?_) (a' := ?_) tahe rfl rfl (zby HT_.out (by kernel_rfl)) (fun _ _ _ h => h) (Or.inl ⟨by rfl, ?_⟩) ?_ ?_
                       rotate_left
                       · intro w'
                         go_simp; with_reducible rfl
                       rotate_left
                       · simp only [Act.put, zaa, zab, zac, zbw, zbx]
                         rfl
                       refine pure_ (i := 12) (N := some 99) (v := undef) (a' := ?_) tahf rfl rfl (zby HT_.out (by kernel_rfl)) (fun _ _ _ h => h) (Or.inr ⟨by rfl, rfl⟩) ?_ ?_
                       rotate_left
                       · simp only [Act.put, zaa, zab, zac, zbw, zbx]
                         rfl
                       refine pure_ (i := 13) (N := some 100) (v := undef) (a' := ?_) tahg rfl rfl (zby HT_.out (by kernel_rfl)) (fun _ _ _ h => h) (Or.inr ⟨by rfl, rfl⟩) ?_ ?_
                       rotate_left
                       · simp only [Act.put, zaa, zab, zac, zbw, zbx]
                         rfl
                       refine pure_ (i := 14) (N := some 101) (v := undef) (a' := ?_) tahh rfl rfl (zby HT_.out (by kernel_rfl)) (fun _ _ _ h => h) (Or.inr ⟨by rfl, rfl⟩) ?_ ?_
                       rotate_left
                       · simp only [Act.put, zaa, zab, zac, zbw, zbx]
                         rfl
                       refine pure_ (i := 15) (N := some 102) (v := undef) (a' := ?_) tahi rfl rfl (zby HT_.out (by kernel_rfl)) (fun _ _ _ h => h) (Or.inr ⟨by rfl, rfl⟩) ?_ ?_
                       rotate_left
                       · simp only [Act.put, zaa, zab, zac, zbw, zbx]
                         rfl
                       refine pure_ (i := 16) (N := some 103) (v := undef) (a' := ?_) tahj rfl rfl (zby HT_.out (by kernel_rfl)) (fun _ _ _ h => h) (Or.inr ⟨by rfl, rfl⟩) ?_ ?_
                       rotate_left
                       · simp only [Act.put, zaa, zab, zac, zbw, zbx]
                         rfl
                       refine pure_ (i := 17) (N := some 104) (v := undef) (a' := ?_) tagv rfl rfl (zby HT_.out (by kernel_rfl)) (fun _ _ _ h => h) (Or.inr ⟨by rfl, rfl⟩) ?_ ?_
                       rotate_left
                       · simp only [Act.put, zaa, zab, zac, zbw, zbx]
                         rfl
                       refine pure_ (i := 18) (N := some 105) (v := undef) (a' := ?_) tagw rfl rfl (zby HT_.out (by kernel_rfl)) (fun _ _ _ h => h) (Or.inr ⟨by rfl, rfl⟩) ?_ ?_
                       rotate_left
                       · simp only [Act.put, zaa, zab, zac, zbw, zbx]
                         rfl
                       refine pure_ (i := 19) (N := some 106) (v := undef) (a' := ?_) tagx rfl rfl (zby HT_.out (by kernel_rfl)) (fun _ _ _ h => h) (Or.inr ⟨by rfl, rfl⟩) ?_ ?_
                       rotate_left
                       · simp only [Act.put, zaa, zab, zac, zbw, zbx]
                         rfl
                       refine pure_ (i := 20) (N := some 107) (v := undef) (a' := ?_) tagy rfl rfl (zby HT_.out (by kernel_rfl)) (fun _ _ _ h => h) (Or.inr ⟨by rfl, rfl⟩) ?_ ?_
                       rotate_left
                       · simp only [Act.put, zaa, zab, zac, zbw, zbx]
                         rfl
                       refine pure_ (i := 21) (N := some 108) (v := undef) (a' := ?_) tagz rfl rfl (zby HT_.out (by kernel_rfl)) (fun _ _ _ h => h) (Or.inr ⟨by rfl, rfl⟩) ?_ ?_
                       rotate_left
                       · simp only [Act.put, zaa, zab, zac, zbw, zbx]
                         rfl
                       refine pure_ (i := 22) (N := some 109) (v := ?_) (a' := ?_) taha rfl rfl (zby HT_.out (by kernel_rfl)) (fun _ _ _ h => h) (Or.inl ⟨by rfl, ?_⟩) ?_ ?_
                       rotate_left
                       · intro w'
                         go_simp; with_reducible rfl
                       rotate_left
                       · simp only [Act.put, zaa, zab, zac, zbw, zbx]
                         rfl
                       refine done_ (done_of HT_.out (by kernel_rfl)) ?_
                       try go_wp2
                       go_ret
                       exact ⟨taec, taaa⟩
                   · rw [if_neg c35] at H
                     exact absurd H (taac)
                 · rw [if_neg c34] at H
                   exact absurd H (taac)
               · rw [if_neg c32] at H
                 exact absurd H (taac)
             · rw [if_neg c31] at H
               have c31b0 : decide (x18_3 < (t1622.length : Int)) = false := zbh c31
               clear c31; by_cases c51 : t1612 = true
               · subst c51
                 have H1 : ((impl_FewestUnits.f k3 t1603 t1604).bind fun bt1637 => (laws_FnAcceptedGiftPaths.l1 k3 t1603 t1604 bt1637.1 bt1637.2 0 t1605 (t1605.length : Int) 0)) = some r := by rw [if_pos rfl] at H; exact H
                 clear H; have H := H1; clear H1; replace H := zay.mp H; obtain ⟨⟨t1637, t1638⟩, A520, H⟩ := H
                 replace H : (laws_FnAcceptedGiftPaths.l1 k3 t1603 t1604 t1637 t1638 0 t1605 (t1605.length : Int) 0) = some r := H
                 have A52 := zad A520; clear A520; have H' := zad H
                 clear H; obtain ⟨Ao53, co53, eo53⟩ := Kd.S_slice HO_14.out
                 subst eo53; go_wp2_with (first | ((with_reducible refine zbf (f := 62) rfl ?_); refine zbn (some 115) rfl rfl Try.func62 (by kernel_rfl) rfl #[.slice Ao10 t1603.length co10, .slice Ao11 t1604.length co11] rfl (taad) ?_; (with_reducible refine (impl_FewestUnits.calls k3 _ _ t1603 _ _ t1604 t1637 t1638 _ ?side1 ?side2 ?side3 ?side4 A52.out).mono ?_); (case side1 => exact tafe); (case side2 => exact (zbd HO_5.out).2.1); (case side3 => exact taez); (case side4 => exact (zbd HO_6.out).2.1); rintro e w54 ⟨rfl, hb⟩; refine ⟨_, rfl, ?_⟩; have n0_ := zad (zbt (taao) hb); have n1_ := zad (zbt (taaj) hb); have n2_ := zad (zbt (taai) hb); have n3_ := zad (Kd.S_below (tabi) hb); have n4_ := zad (zbe (taaa) hb); clear HO_5 HO_6 HO_7 HO_14 HB; have HO_5 := n0_; have HO_6 := n1_; have HO_7 := n2_; have HO_14 := n3_; have HB := n4_; clear n0_ n1_ n2_ n3_ n4_; (try clear hb); (try clear hb2); (try clear hk); (try clear hi)))
                 go_loopg [21, 120] k3 (fun kq v21 v120 w' => ∃ (x21_4 : Int) (x120_4 : Int), v21 = .int .i64 x21_4 ∧ v120 = .int .i64 x120_4 ∧ Aside0 (laws_FnAcceptedGiftPaths.l1 kq t1603 t1604 t1637 t1638 x21_4 t1605 (t1605.length : Int) x120_4 = some r) ∧ Aside0 (kq ≤ k3) ∧ Aside0 (Kd.R (Kd.int .i64) 3 w' w.heap.size (fun k_ => some k_ ≠ ((.slice Ao11 t1604.length co11) : Value).ownBlock) (.slice Ao10 t1603.length co10) t1603) ∧ Aside0 (Kd.R (Kd.int .i64) 3 w' w.heap.size (fun k_ => some k_ ≠ ((.slice Ao10 t1603.length co10) : Value).ownBlock) (.slice Ao11 t1604.length co11) t1604) ∧ Aside0 (Kd.R k39 39 w' w.heap.size (fun _ => True) (.slice Ao12 t1605.length co12) t1605) ∧ Aside0 (Below w.heap.size w w'))
                 case atStart => exact ⟨(0), (0), (taag), (taag), H', ⟨zcf _⟩, ⟨taao⟩, ⟨taaj⟩, ⟨taai⟩, ⟨taaa⟩⟩
                 case round =>
                  clear H'
                  try clear c1
                  try clear p1
                  try clear q1
                  try clear hx1
                  try clear c2
                  try clear p2
                  try clear c3
                  try clear c5
                  try clear c6
                  try clear p6
                  try clear c16
                  try clear p16
                  try clear q16
                  try clear hx16
                  try clear c22
                  try clear c31
                  try clear c31b0
                  try clear c32
                  try clear c34
                  try clear c35
                  try clear c37
                  try clear c51
                  try clear hx1631_0
                  try clear hx1632_0
                  try clear hx1634_0
                  try clear hx1635_0
                  try clear p1631
                  try clear p1632
                  try clear p1634
                  try clear p1635
                  try clear q1631
                  try clear q1632
                  try clear q1634
                  try clear q1635
                  obtain ⟨x21_4, x120_4, rfl, rfl, HA, HK4, HO_5, HO_6, HO_118, HB⟩ := hrel
                  cases gk with
                  | zero => exact absurd HA.out (by simp [laws_FnAcceptedGiftPaths.l1])
                  | succ k4 =>
                   have H := HA.out
                   clear HA; simp only [laws_FnAcceptedGiftPaths.l1] at H
                   by_cases c55 : x120_4 < (t1605.length : Int)
                   · rw [if_pos c55] at H
                     have c55b0 : decide (x120_4 < (t1605.length : Int)) = true := zba c55
                     clear c55; by_cases c56 : 0 ≤ x120_4
                     · rw [if_pos c56] at H
                       have c56b0 : decide (0 ≤ x120_4) = true := zba c56
                       clear c56; by_cases c57 : x120_4 < (t1605.length : Int)
                       · rw [if_pos c57] at H
                         have c57b0 : decide (x120_4 < (t1605.length : Int)) = true := zba c57
                         clear c57; have H' := zad H
                         clear H; have p1639 : 0 ≤ (x120_4 : Int) := zas (taab)
                         have q1639 : x120_4 < (t1605.length : Int) := zas (taab)
                         obtain ⟨ad1639, e1639, hx1639_0, hx1639_1, hx1639_2⟩ := at_T39 (zbd HO_118.out).2.2 x120_4 p1639 q1639
                         cases e1639
                         replace p1639 := eq_true p1639
                         replace q1639 := eq_true q1639
                         go_wp2_with (first | ((with_reducible refine gate_dst (N := 23) rfl ?_); refine box_event ?hg (N := 23) ?hd (cs := #[.int .i64 0, .int .i64 0, .int .i64 0]) (t := 39) ?hr ?_; (case hd => rfl); (case hg => rfl); (case hr => first | (go_simp; done) | (go_simp; rfl)); intro gb1640 hg w58 hbox hb; have n0_ := zad (zbt (taao) hb); have n1_ := zad (zbt (taaj) hb); have n2_ := zad (zbt (Kd.R_elderB (tado) gb1640 (Nat.le_of_eq hg.symm)) hb); have n3_ := zad (zbe (taaa) hb); have n4_ := zad (hbox); have n5_ := zad ((taee : w.heap.size ≤ gb1640)); have n6_ := zad ((taee : w.heap.size ≤ gb1640)); clear HO_5 HO_6 HO_118 HB; have HO_5 := n0_; have HO_6 := n1_; have HO_118 := n2_; have HB := n3_; have BK1640 := n4_; have GW1640 := n5_; have GE1640 := n6_; clear n0_ n1_ n2_ n3_ n4_ n5_ n6_ hb hbox hg; have hcz59_0 : w58.cell? ⟨gb1640, 0, none⟩ = some (.int .i64 0) := (zbi BK1640.out 0).trans rfl; have hcz59_1 : w58.cell? ⟨gb1640, 1, none⟩ = some (.int .i64 0) := (zbi BK1640.out 1).trans rfl; have hcz59_2 : w58.cell? ⟨gb1640, 2, none⟩ = some (.int .i64 0) := (zbi BK1640.out 2).trans rfl; have hfz59_0 := zbj BK1640.out 0; have hfz59_1 := zbj BK1640.out 1; have hfz59_2 := zbj BK1640.out 2))
                         go_roundg k4
                         case measure => have := HJ7.out; have := HJ19.out; have := HK3.out; have := HK4.out; omega
                         case rel => exact ⟨(wrap64 (x21_4 + ((rd_T39 t1605 x120_4).f2))), (wrap64 (x120_4 + 1)), (taag), (taag), H', ⟨by have := HJ7.out; have := HJ19.out; have := HK3.out; have := HK4.out; omega⟩, ⟨by (with_reducible repeat (first | apply zai | apply zaj | apply zak)); exact zbq (Kd.R_far (p := ⟨gb1640, 2, none⟩) (Kd.R_far (p := ⟨gb1640, 1, none⟩) (Kd.R_far (p := ⟨gb1640, 0, none⟩) (Kd.R_types HO_5.out BK1640.out (by decide)) (fun _ hk => hk.2) (.int .i64 ((rd_T39 t1605 x120_4).f0))) (fun _ hk => hk.2) (.int .i64 ((rd_T39 t1605 x120_4).f1))) (fun _ hk => hk.2) (.int .i64 ((rd_T39 t1605 x120_4).f2))) (fun _ hk => hk.1)⟩, ⟨by (with_reducible repeat (first | apply zai | apply zaj | apply zak)); exact zbq (Kd.R_far (p := ⟨gb1640, 2, none⟩) (Kd.R_far (p := ⟨gb1640, 1, none⟩) (Kd.R_far (p := ⟨gb1640, 0, none⟩) (Kd.R_types HO_6.out BK1640.out (by decide)) (fun _ hk => hk.2) (.int .i64 ((rd_T39 t1605 x120_4).f0))) (fun _ hk => hk.2) (.int .i64 ((rd_T39 t1605 x120_4).f1))) (fun _ hk => hk.2) (.int .i64 ((rd_T39 t1605 x120_4).f2))) (fun _ hk => hk.1)⟩, ⟨by (with_reducible repeat (first | apply zai | apply zaj | apply zak)); exact zbq (Kd.R_far (p := ⟨gb1640, 2, none⟩) (Kd.R_far (p := ⟨gb1640, 1, none⟩) (Kd.R_far (p := ⟨gb1640, 0, none⟩) (zbq HO_118.out (fun k_ hk => (⟨hk, hk.2⟩ : _ ∧ k_ ≠ gb1640))) (fun _ hk => hk.2) (.int .i64 ((rd_T39 t1605 x120_4).f0))) (fun _ hk => hk.2) (.int .i64 ((rd_T39 t1605 x120_4).f1))) (fun _ hk => hk.2) (.int .i64 ((rd_T39 t1605 x120_4).f2))) (fun _ hk => trivial)⟩, ⟨by repeat (first | (with_reducible first | exact HB.out | apply zag | apply zae | apply zaf | refine zah ?_ GE1640.out) | exact HB.out)⟩⟩
                       · rw [if_neg c57] at H
                         exact absurd H (taac)
                     · rw [if_neg c56] at H
                       exact absurd H (taac)
                   · rw [if_neg c55] at H
                     have c55b0 : decide (x120_4 < (t1605.length : Int)) = false := zbh c55
                     clear c55; by_cases c60 : t1638 = true
                     · subst c60
                       have H1 : ((laws_pBelow.f k4 t1603 t1604).bind fun t1641 => (if t1641 = true then (some (decide (x21_4 ≥ t1637))) else (some false))) = some r := by rw [if_pos rfl] at H; exact H
                       clear H; have H := H1; clear H1; replace H := zay.mp H; obtain ⟨t1641, A610, H⟩ := H
                       replace H : (if t1641 = true then (some (decide (x21_4 ≥ t1637))) else (some false)) = some r := H
                       have A61 := zad A610; clear A610; by_cases c62 : t1641 = true
                       · subst c62
                         have H1 : (some (decide (x21_4 ≥ t1637))) = some r := by rw [if_pos rfl] at H; exact H
                         clear H; have H := H1; clear H1; obtain rfl := zbc H
                         go_wp2_with (first | (go_at_call 22; (with_reducible refine (laws_pBelow.calls k4 _ _ t1603 _ _ t1604 true _ ?side1 ?side2 ?side3 ?side4 A61.out).mono ?_); (case side1 => exact tafe); (case side2 => exact (zbd HO_5.out).2.1); (case side3 => exact taez); (case side4 => exact (zbd HO_6.out).2.1); rintro e w63 ⟨rfl, hb⟩; have n0_ := zad (zbt (taao) hb); have n1_ := zad (zbt (taaj) hb); have n2_ := zad (zbt (tado) hb); have n3_ := zad (zbe (taaa) hb); clear HO_5 HO_6 HO_118 HB; have HO_5 := n0_; have HO_6 := n1_; have HO_118 := n2_; have HB := n3_; clear n0_ n1_ n2_ n3_; (try clear hb); (try clear hb2); (try clear hk); (try clear hi)))
                         go_ret
                         exact ⟨taah, taaa⟩
                       · replace c62 := zbg.mpr c62
                         subst c62; have H1 : (some false) = some r := by rw [if_neg (show ¬ (false = true) by decide)] at H; exact H
                         clear H; have H := H1; clear H1; obtain rfl := zbc H
                         go_wp2_with (first | (go_at_call 22; (with_reducible refine (laws_pBelow.calls k4 _ _ t1603 _ _ t1604 false _ ?side1 ?side2 ?side3 ?side4 A61.out).mono ?_); (case side1 => exact tafe); (case side2 => exact (zbd HO_5.out).2.1); (case side3 => exact taez); (case side4 => exact (zbd HO_6.out).2.1); rintro e w64 ⟨rfl, hb⟩; have n0_ := zad (zbt (taao) hb); have n1_ := zad (zbt (taaj) hb); have n2_ := zad (zbt (tado) hb); have n3_ := zad (zbe (taaa) hb); clear HO_5 HO_6 HO_118 HB; have HO_5 := n0_; have HO_6 := n1_; have HO_118 := n2_; have HB := n3_; clear n0_ n1_ n2_ n3_; (try clear hb); (try clear hb2); (try clear hk); (try clear hi)))
                         go_ret
                         exact ⟨taah, taaa⟩
                     · replace c60 := zbg.mpr c60
                       subst c60; have H1 : (some false) = some r := by rw [if_neg (show ¬ (false = true) by decide)] at H; exact H
                       clear H; have H := H1; clear H1; obtain rfl := zbc H
                       go_wp2
                       go_ret
                       exact ⟨taah, taaa⟩
               · replace c51 := zbg.mpr c51
                 subst c51; have H1 : (some true) = some r := by rw [if_neg (show ¬ (false = true) by decide)] at H; exact H
                 clear H; have H := H1; clear H1; obtain rfl := zbc H
                 obtain ⟨Ao65, co65, eo65⟩ := Kd.S_slice HO_14.out
                 subst eo65; go_wp2
                 go_ret
                 exact ⟨taah, taaa⟩
def laws_FnAcceptedGiftPaths.Pure : Prop := ∀ (l0 : List Int) (l1 : List Int), l0.length ≤ maxLen → l0.length * 1 ≤ 140737488351232 → (∀ x ∈ l0, (Lit.int .u8 x).wf = true) → l1.length ≤ maxLen → l1.length * 1 ≤ 140737488351232 → (∀ x ∈ l1, (Lit.int .u8 x).wf = true) → ∃ k, laws_FnAcceptedGiftPaths.f k l0 l1 = some true
theorem laws_FnAcceptedGiftPaths.walk (P : laws_FnAcceptedGiftPaths.Pure) (a0 : Option Addr) (len0 cap0 : Nat) (z0 : List Int) (a1 : Option Addr) (len1 cap1 : Nat) (z1 : List Int) (w : World) (w0 : (a0 = none ∧ len0 = 0 ∧ cap0 = 0 ∧ z0 = []) ∨ ∃ x, a0 = some x ∧ len0 ≤ cap0 ∧ cap0 ≤ maxLen ∧ z0.length = cap0 ∧ (∀ i, i < z0.length → w.cell? (x.add i) = some (.int .u8 (z0.getD i 0))) ∧ ∀ n ∈ z0, (Lit.int .u8 n).wf = true) (y0 : len0 * 1 ≤ 140737488351232) (w1 : (a1 = none ∧ len1 = 0 ∧ cap1 = 0 ∧ z1 = []) ∨ ∃ x, a1 = some x ∧ len1 ≤ cap1 ∧ cap1 ≤ maxLen ∧ z1.length = cap1 ∧ (∀ i, i < z1.length → w.cell? (x.add i) = some (.int .u8 (z1.getD i 0))) ∧ ∀ n ∈ z1, (Lit.int .u8 n).wf = true) (y1 : len1 * 1 ≤ 140737488351232) :
 Calls Try.prog 12 #[.slice a0 len0 cap0, .slice a1 len1 cap1] w fun e w' => e = .returned (.bool true) ∧ Below w.heap.size w w' := by
 obtain ⟨l0, rfl, hr0, hm0, hw0, hc0⟩ := ReadsInt.ofRowC w0
 obtain ⟨l1, rfl, hr1, hm1, hw1, hc1⟩ := ReadsInt.ofRowC w1
 obtain ⟨k, h⟩ := P l0 l1 hm0 y0 hw0 hm1 y1 hw1
 refine (laws_FnAcceptedGiftPaths.calls k _ _ l0 _ _ l1 true w (Kd.C_of_reads (d := (0 : Int)) (h1 := fun _ => rfl) hr0) hc0 (Kd.C_of_reads (d := (0 : Int)) (h1 := fun _ => rfl) hr1) hc1 h).mono ?_
 rintro e w' ⟨rfl, hd⟩
 exact ⟨rfl, hd⟩
mutual
def impl_CompareLists.j0 : Nat → List Int → List Int → Bool → Option (ByteArray × Bool)
 | 0, _, _, _ => none
 | k + 1, x0, x1, x17 => if x17 = true then (some ((⟨#[]⟩ : ByteArray), false)) else ((impl_isMajorized.f k x0 x1).bind fun t841 => ((impl_isMajorized.f k x1 x0).bind fun t842 => (if t841 = true then (impl_CompareLists.j1 k t841 t842 t842) else (impl_CompareLists.j1 k t841 t842 false))))
def impl_CompareLists.j1 : Nat → Bool → Bool → Bool → Option (ByteArray × Bool)
 | 0, _, _, _ => none
 | k + 1, x6, x7, x24 => if x24 = true then (some ((⟨#[101, 113, 117, 97, 108]⟩ : ByteArray), true)) else (if x6 = true then (some ((⟨#[108, 101, 115, 115]⟩ : ByteArray), true)) else (if x7 = true then (some ((⟨#[103, 114, 101, 97, 116, 101, 114]⟩ : ByteArray), true)) else (some ((⟨#[97, 112, 97, 114, 116]⟩ : ByteArray), true))))
end

def psums : Int → List Int → List Int
 | _, [] => []
 | s, x :: l => (s + x) :: psums (s + x) l
def psStep (s : List Int × Int) (x : Int) : List Int × Int := (s.1 ++ [s.2 + x], s.2 + x)
theorem foldl_ps : ∀ (l : List Int) (s : List Int × Int), (l.foldl psStep s).1 = s.1 ++ psums s.2 l
 | [], s => by simp [psums]
 | x :: l, s => by
  rw [List.foldl_cons, foldl_ps l]
  simp [psStep, psums]
theorem psums_length : ∀ (l : List Int) (s : Int), (psums s l).length = l.length
 | [], _ => rfl
 | x :: l, s => by simp [psums, psums_length l]
theorem liSums_ev (l : List Int) (h : Sm l) : Ev (fun k => spec_liSums.f k l) (psums 0 l) := by
 unfold spec_liSums.f
 have hl := h.1
 have h := ev_fold (xs := l) (g := fun k s i => spec_liSums.l0 k s.1 s.2 l (l.length : Int) i) psStep (fun s i => s.1.length = i ∧ 0 ≤ s.2 ∧ s.2 ≤ 1000 * (i : Int)) (fun s => s.1)
  (fun s _ => Ev.succ (by simp only [spec_liSums.l0, if_neg (Int.lt_irrefl _)]; exact Ev.now _))
  (fun i hi s r hs _ hr => Ev.succ (by
   have hb := h.2 _ (List.getElem_mem hi)
   simp only [spec_liSums.l0, if_pos (show (i : Int) < (l.length : Int) by omega), if_pos (show (0 : Int) ≤ (i : Int) by omega), rdn hi, if_pos (show s.1.length < 17592186044416 by omega), wsucc hi (by omega), w64 (x := s.2 + l[i]) (by omega) (by omega)]
   exact hr))
  (fun i hi s hs => by
   have hb := h.2 _ (List.getElem_mem hi)
   simp only [psStep, List.length_append, List.length_cons, List.length_nil]
   omega) l.length 0 ([], 0) (by omega) (taac)
 rw [List.drop_zero, foldl_ps] at h
 exact h
theorem partial_l (l : List Int) (h : Sm l) : Ev (fun k => impl_partial.l0 k [] 0 l (l.length : Int) 0) (psums 0 l) := by
 have hl := h.1
 have h := ev_fold (xs := l) (g := fun k s i => impl_partial.l0 k s.1 s.2 l (l.length : Int) i) psStep (fun s i => s.1.length = i ∧ 0 ≤ s.2 ∧ s.2 ≤ 1000 * (i : Int)) (fun s => s.1)
  (fun s _ => Ev.succ (by simp only [impl_partial.l0, if_neg (Int.lt_irrefl _)]; exact Ev.now _))
  (fun i hi s r hs _ hr => Ev.succ (by
   have hb := h.2 _ (List.getElem_mem hi)
   simp only [impl_partial.l0, if_pos (show (i : Int) < (l.length : Int) by omega), if_pos (show (0 : Int) ≤ (i : Int) by omega), rdn hi, if_pos (show s.1.length < 17592186044416 by omega), wsucc hi (by omega), w64 (x := s.2 + l[i]) (by omega) (by omega)]
   exact hr))
  (fun i hi s hs => by
   have hb := h.2 _ (List.getElem_mem hi)
   simp only [psStep, List.length_append, List.length_cons, List.length_nil]
   omega) l.length 0 ([], 0) (by omega) (taac)
 rw [List.drop_zero, foldl_ps] at h
 exact h
def partL (l : List Int) : List Int := psums 0 (descL l)
theorem liPartial_ev (l : List Int) (h : Sm l) : Ev (fun k => spec_liPartial.f k l) (partL l) := by
 unfold spec_liPartial.f
 exact Ev.bind (liRank_ev l (by have := h.1; omega)) (Ev.bind (liSums_ev _ (sm_desc h)) (Ev.now _))
theorem partial_ev (l : List Int) (h : Sm l) : Ev (fun k => impl_partial.f k l) (partL l) := by
 unfold impl_partial.f
 simp only [ranking_eq h, zbb]
 exact partial_l _ (sm_desc h)
theorem partL_length (l : List Int) : (partL l).length = l.length := by
 unfold partL
 rw [psums_length, descL_length]
def overL : Int → List Int → List Int → Int
 | i, x :: xs, y :: ys => if x > y then i + 1 else overL (i + 1) xs ys
 | _, _, _ => 0
theorem liOver_l (p q : List Int) (h : p.length ≤ q.length) (hp : p.length ≤ 1000000) : ∀ (n i : Nat), i + n = p.length → Ev (fun k => spec_liOver.l0 k p q (p.length : Int) (i : Int)) (overL (i : Int) (p.drop i) (q.drop i))
 | 0, i, hi => by
  refine Ev.succ ?_
  simp only [spec_liOver.l0, if_neg (show ¬ (i : Int) < (p.length : Int) by omega)]
  rw [List.drop_eq_nil_of_le (by omega), overL]
  exact Ev.now _
  simp
 | n + 1, i, hi => by
  have h1 : i < p.length := by omega
  have h2 : i < q.length := by omega
  refine Ev.succ ?_
  simp only [spec_liOver.l0, if_pos (show (i : Int) < (p.length : Int) by omega), if_pos (show (i : Int) < (q.length : Int) by omega), if_pos (show (0 : Int) ≤ (i : Int) by omega), rdn h1, rdn h2, wsucc h1 (by omega)]
  rw [List.drop_eq_getElem_cons h1, List.drop_eq_getElem_cons h2, overL]
  refine Ev.ite (fun _ => ?_) (fun _ => ?_)
  · rw [show ((i : Int) + 1) = ((i + 1 : Nat) : Int) by omega]
    exact Ev.now _
  · rw [show ((i : Int) + 1) = ((i + 1 : Nat) : Int) by omega]
    exact liOver_l p q h hp n (i + 1) (by omega)
theorem refused_l (p q : List Int) (h : p.length ≤ q.length) (hp : p.length ≤ 1000000) : ∀ (n i : Nat), i + n = p.length → Ev (fun k => impl_refused.l0 k q p (p.length : Int) (i : Int)) (overL (i : Int) (p.drop i) (q.drop i))
 | 0, i, hi => by
  refine Ev.succ ?_
  simp only [impl_refused.l0, if_neg (show ¬ (i : Int) < (p.length : Int) by omega)]
  rw [List.drop_eq_nil_of_le (by omega), overL]
  exact Ev.now _
  simp
 | n + 1, i, hi => by
  have h1 : i < p.length := by omega
  have h2 : i < q.length := by omega
  refine Ev.succ ?_
  simp only [impl_refused.l0, if_pos (show (i : Int) < (p.length : Int) by omega), if_pos (show (i : Int) < (q.length : Int) by omega), if_pos (show (0 : Int) ≤ (i : Int) by omega), rdn h1, rdn h2, wsucc h1 (by omega)]
  rw [List.drop_eq_getElem_cons h1, List.drop_eq_getElem_cons h2, overL]
  refine Ev.ite (fun _ => ?_) (fun _ => ?_)
  · rw [show ((i : Int) + 1) = ((i + 1 : Nat) : Int) by omega]
    exact Ev.now _
  · rw [show ((i : Int) + 1) = ((i + 1 : Nat) : Int) by omega]
    exact refused_l p q h hp n (i + 1) (by omega)
def overR (a b : List Int) : Int := overL 0 (partL a) (partL b)
theorem liOver_ev (a b : List Int) (ha : Sm a) (hb : Sm b) (h : a.length ≤ b.length) : Ev (fun k => spec_liOver.f k a b) (overR a b) := by
 unfold spec_liOver.f
 exact Ev.bind (liPartial_ev a ha) (Ev.bind (liPartial_ev b hb) (liOver_l _ _ (by rw [partL_length, partL_length]; exact h) (by rw [partL_length]; have := ha.1; omega) (partL a).length 0 (by omega)))
theorem refused_ev (a b : List Int) (ha : Sm a) (hb : Sm b) (h : a.length ≤ b.length) : Ev (fun k => impl_refused.f k a b) (overR a b) := by
 unfold impl_refused.f
 exact Ev.bind (partial_ev b hb) (Ev.bind (partial_ev a ha) (refused_l _ _ (by rw [partL_length, partL_length]; exact h) (by rw [partL_length]; have := ha.1; omega) (partL a).length 0 (by omega)))
theorem overL_zero : ∀ (p q : List Int) (i : Int), 0 ≤ i → (overL i p q = 0 ↔ ∀ (j : Nat) (h1 : j < p.length) (h2 : j < q.length), p[j] ≤ q[j])
 | [], q, i, _ => by simp [overL]
 | x :: p, [], i, _ => by simp [overL]
 | x :: p, y :: q, i, h => by
  unfold overL
  by_cases c : x > y
  · rw [if_pos c]
    refine ⟨fun h' => by omega, fun h' => ?_⟩
    have := h' 0 (taac) (taac)
    simp only [List.getElem_cons_zero] at this
    omega
  · rw [if_neg c, overL_zero p q (i + 1) (by omega)]
    constructor
    · intro h' j h1 h2
      cases j with
      | zero => simp only [List.getElem_cons_zero]; omega
      | succ j =>
       rw [List.getElem_cons_succ, List.getElem_cons_succ]
       exact h' j (by rw [List.length_cons] at h1; omega) (by rw [List.length_cons] at h2; omega)
    · intro h' j h1 h2
      have h3 := h' (j + 1) (by rw [List.length_cons]; omega) (by rw [List.length_cons]; omega)
      rw [List.getElem_cons_succ, List.getElem_cons_succ] at h3
      exact h3
def majB (a b : List Int) : Bool := if fitB a b = true then (overR a b == 0) else false
theorem liBelow_ev (a b : List Int) (ha : Sm a) (hb : Sm b) : Ev (fun k => spec_liBelow.f k a b) (majB a b) := by
 unfold spec_liBelow.f majB
 exact Ev.bind (liFit_ev a b ha hb) (Ev.ite (fun h => Ev.bind (liOver_ev a b ha hb (by have := (fitB_iff a b).1 h; omega)) (Ev.now _)) (fun _ => Ev.now _))
theorem isMajorized_ev (a b : List Int) (ha : Sm a) (hb : Sm b) : Ev (fun k => impl_isMajorized.f k a b) (majB a b) := by
 unfold impl_isMajorized.f majB
 exact Ev.bind (doFit_ev a b ha hb) (Ev.ite (fun h => Ev.bind (refused_ev a b ha hb (by have := (fitB_iff a b).1 h; omega)) (Ev.now _)) (fun _ => Ev.now _))
theorem majB_iff (a b : List Int) : majB a b = true ↔ a.length = b.length ∧ a.sum = b.sum ∧ ∀ (j : Nat) (h1 : j < (partL a).length) (h2 : j < (partL b).length), (partL a)[j] ≤ (partL b)[j] := by
 unfold majB overR
 by_cases h : fitB a b = true
 · rw [if_pos h, beq_iff_eq, overL_zero _ _ _ (Int.le_refl _)]
   have := (fitB_iff a b).1 h
   simp only [this, true_and]
 · rw [if_neg h]
   rw [fitB_iff] at h
   constructor
   · intro h'
     exact absurd h' (by decide)
   · intro h'
     exact absurd ⟨h'.1, h'.2.1⟩ h
theorem l1Same_l (xs ys : List Int) (hx : xs.length ≤ 9223372036854775807) (hl : xs.length = ys.length) : ∀ (n i : Nat), i + n = xs.length → Ev (fun k => spec_l1Same.l0 k xs ys (xs.length : Int) (i : Int)) (decide (xs.drop i = ys.drop i))
 | 0, i, h => by
  refine Ev.succ ?_
  simp only [spec_l1Same.l0, if_neg (show ¬ (i : Int) < (xs.length : Int) by omega)]
  rw [List.drop_eq_nil_of_le (by omega), List.drop_eq_nil_of_le (by omega)]
  exact Ev.now _
 | n + 1, i, h => by
  have hi : i < xs.length := by omega
  have hj : i < ys.length := by omega
  refine Ev.succ ?_
  simp only [spec_l1Same.l0, if_pos (show (i : Int) < (xs.length : Int) by omega), if_pos (show (i : Int) < (ys.length : Int) by omega), if_pos (show (0 : Int) ≤ (i : Int) by omega), rdn hi, rdn hj, wsucc hi hx]
  rw [List.drop_eq_getElem_cons hi, List.drop_eq_getElem_cons hj]
  by_cases c : xs[i] = ys[i]
  · simp only [c, if_true, List.cons.injEq, true_and]
    exact l1Same_l xs ys hx hl n (i + 1) (by omega)
  · simp only [c, if_false, List.cons.injEq, false_and, decide_false]
    exact Ev.now _
theorem l1Same_ev (xs ys : List Int) (hx : xs.length ≤ 9223372036854775807) : Ev (fun k => spec_l1Same.f k xs ys) (decide (xs = ys)) := by
 unfold spec_l1Same.f
 by_cases h : xs.length = ys.length
 · simp only [if_pos (show (xs.length : Int) = (ys.length : Int) by omega)]
   exact l1Same_l xs ys hx h xs.length 0 (by omega)
 · simp only [if_neg (show ¬ (xs.length : Int) = (ys.length : Int) by omega)]
   rw [zbh (fun e => h (by rw [e]))]
   exact Ev.now _
theorem psums_inj : ∀ (a b : List Int) (s : Int), psums s a = psums s b → a = b
 | [], [], _, _ => rfl
 | [], y :: b, s, h => by simp [psums] at h
 | x :: a, [], s, h => by simp [psums] at h
 | x :: a, y :: b, s, h => by
  simp only [psums, List.cons.injEq] at h
  have e : x = y := by omega
  subst e; rw [psums_inj a b _ h.2]
theorem majB_cmp (a b : List Int) : majB a b = true ↔ a.length = b.length ∧ a.sum = b.sum ∧ ∀ (j : Nat) (h1 : j < (partL a).length) (h2 : j < (partL b).length), (partL a)[j] ≤ (partL b)[j] := by
 unfold majB
 by_cases h : fitB a b = true
 · rw [if_pos h, beq_iff_eq]
   unfold overR
   rw [overL_zero _ _ 0 (by omega)]
   have := (fitB_iff a b).1 h
   exact ⟨fun h' => ⟨this.1, this.2, h'⟩, fun h' => h'.2.2⟩
 · rw [if_neg h]
   exact ⟨fun h' => absurd h' (by decide), fun h' => absurd ((fitB_iff a b).2 ⟨h'.1, h'.2.1⟩) h⟩
theorem maj_both (a b : List Int) : (majB a b = true ∧ majB b a = true) ↔ (fitB a b = true ∧ descL a = descL b) := by
 rw [majB_cmp, majB_cmp, fitB_iff]
 constructor
 · rintro ⟨⟨h1, h2, h3⟩, _, _, h4⟩
   refine ⟨⟨h1, h2⟩, psums_inj _ _ 0 ?_⟩
   refine List.ext_getElem (by rw [psums_length, psums_length, descL_length, descL_length, h1]) (fun j h5 h6 => ?_)
   exact Int.le_antisymm (h3 j h5 h6) (h4 j h6 h5)
 · rintro ⟨⟨h1, h2⟩, h3⟩
   have e : partL a = partL b := by
    unfold partL
    rw [h3]
   refine ⟨⟨h1, h2, ?_⟩, h1.symm, h2.symm, ?_⟩
   · intro j h4 h5
     simp only [e]
     exact Int.le_refl _
   · intro j h4 h5
     simp only [e]
     exact Int.le_refl _
mutual
def impl_conjugate.l0 : Nat → Int → List Int → List Int → Int → Int → Option (List Int)
 | 0, _, _, _, _, _ => none
 | k + 1, x1, x5, x11, x12, x13 => if x13 < x12 then (if 0 ≤ x13 then (if x13 < (x11.length : Int) then (impl_conjugate.l1 k x1 x5 x11 x12 x13 (mn (rd x11 x13) x1) 0) else (none)) else (none)) else (some x5)
def impl_conjugate.l1 : Nat → Int → List Int → List Int → Int → Int → Int → Int → Option (List Int)
 | 0, _, _, _, _, _, _, _ => none
 | k + 1, x1, x5, x11, x12, x13, x19, x20 => if x20 < x19 then (if 0 ≤ x20 then (if x20 < (x5.length : Int) then (impl_conjugate.l1 k x1 (x5.set (x20 : Int).toNat (wrap64 ((rd x5 x20) + 1))) x11 x12 x13 x19 (wrap64 (x20 + 1))) else (none)) else (none)) else (impl_conjugate.l0 k x1 x5 x11 x12 (wrap64 (x13 + 1)))
end
mutual
def spec_liConjugate.l0 : Nat → Int → List Int → List Int → Int → Int → Option (List Int)
 | 0, _, _, _, _, _ => none
 | k + 1, x1, x5, x11, x12, x13 => if x13 < x12 then (if 0 ≤ x13 then (if x13 < (x11.length : Int) then (spec_liConjugate.l1 k x1 x5 (rd x11 x13) 0 x11 x12 x13) else (none)) else (none)) else (some x5)
def spec_liConjugate.l1 : Nat → Int → List Int → Int → Int → List Int → Int → Int → Option (List Int)
 | 0, _, _, _, _, _, _, _ => none
 | k + 1, x1, x5, x7, x8, x11, x12, x13 => if x8 < x7 then (if x8 < x1 then (if 0 ≤ x8 then (if x8 < (x5.length : Int) then (spec_liConjugate.l1 k x1 (x5.set (x8 : Int).toNat (wrap64 ((rd x5 x8) + 1))) x7 (wrap64 (x8 + 1)) x11 x12 x13) else (none)) else (none)) else (spec_liConjugate.l0 k x1 x5 x11 x12 (wrap64 (x13 + 1)))) else (spec_liConjugate.l0 k x1 x5 x11 x12 (wrap64 (x13 + 1)))
end


def spec_liFrom.l0 : Nat → List Int → Int → List Int → Int → Int → Option (List Int)
 | 0, _, _, _, _, _ => none
 | k + 1, x3, x4, x7, x8, x9 => if x9 < x8 then (if 0 ≤ x9 then (if x9 < (x7.length : Int) then (if x3.length < 17592186044416 then (spec_liFrom.l0 k (x3 ++ [wrap64 ((rd x7 x9) - x4)]) (rd x7 x9) x7 x8 (wrap64 (x9 + 1))) else (none)) else (none)) else (none)) else (some x3)
def spec_liFrom.f (k : Nat) (l0 : List Int) : Option (List Int) := spec_liFrom.l0 k ([] : List Int) 0 l0 (l0.length : Int) 0

mutual
def spec_MeetOf.j0 : Nat → List Int → List Int → Bool → Option (List Int × Bool)
 | 0, _, _, _ => none
 | k + 1, x0, x1, x23 => if x23 = true then (some (([] : List Int), false)) else ((spec_liPartial.f k x0).bind fun t1011 => ((spec_liPartial.f k x1).bind fun t1014 => (spec_MeetOf.l0 k t1011 t1014 ([] : List Int) (t1011.length : Int) 0)))
def spec_MeetOf.l0 : Nat → List Int → List Int → List Int → Int → Int → Option (List Int × Bool)
 | 0, _, _, _, _, _ => none
 | k + 1, x6, x7, x8, x29, x30 => if x30 < x29 then (if 0 ≤ x30 then (if x30 < (x6.length : Int) then (if x30 < (x7.length : Int) then ((spec_l1Least.f (rd x6 x30) (rd x7 x30)).bind fun t1019 => (if x8.length < 17592186044416 then (spec_MeetOf.l0 k x6 x7 (x8 ++ [t1019]) x29 (wrap64 (x30 + 1))) else (none))) else (none)) else (none)) else (none)) else ((spec_liFrom.f k x8).bind fun t1023 => (some (t1023, true)))
end


def gtN (l : List Int) (j : Nat) : Nat := l.countP fun x => decide ((j : Int) < x)
def pre (x : List Int) (m : Nat) : Int := (x.take m).sum
theorem pre_zero (x : List Int) : pre x 0 = 0 := rfl
theorem pre_succ {x : List Int} {m : Nat} (h : m < x.length) : pre x (m + 1) = pre x m + rd x (m : Int) := by
 unfold pre
 rw [List.take_succ_eq_append_getElem h, List.sum_append, rdn h, List.sum_cons, List.sum_nil, Int.add_zero]
theorem pre_all {x : List Int} {m : Nat} (h : x.length ≤ m) : pre x m = x.sum := by
 unfold pre
 rw [List.take_of_length_le h]
theorem psums_get : ∀ (l : List Int) (s : Int) (j : Nat) (h : j < (psums s l).length), (psums s l)[j] = s + pre l (j + 1)
 | [], s, j, h => by simp [psums] at h
 | x :: l, s, 0, h => by simp [psums, pre]
 | x :: l, s, j + 1, h => by
  have h' : j < (psums (s + x) l).length := by
   rw [psums, List.length_cons] at h
   omega
  have := psums_get l (s + x) j h'
  simp only [psums, List.getElem_cons_succ]
  rw [this]
  simp only [pre, List.take_succ_cons, List.sum_cons]
  omega
def Dom (x t : List Int) : Prop := x.length = t.length ∧ x.sum = t.sum ∧ ∀ m, pre t m ≤ pre x m
theorem majB_dom (a b : List Int) : majB a b = true ↔ Dom (descL b) (descL a) := by
 rw [majB_iff]
 unfold Dom
 rw [descL_length, descL_length, descL_sum, descL_sum]
 constructor
 · rintro ⟨h1, h2, h3⟩
   refine ⟨h1.symm, h2.symm, fun m => ?_⟩
   cases m with
   | zero => rw [pre_zero, pre_zero]; exact Int.le_refl _
   | succ m =>
    by_cases hm : m < a.length
    · have h := h3 m (by rw [partL_length]; exact hm) (by rw [partL_length]; omega)
      unfold partL at h
      rw [psums_get, psums_get] at h
      omega
    · rw [pre_all (by rw [descL_length]; omega), pre_all (by rw [descL_length]; omega), descL_sum, descL_sum]
      omega
 · rintro ⟨h1, h2, h3⟩
   refine ⟨h1.symm, h2.symm, fun j q1 q2 => ?_⟩
   have e1 : (partL a)[j] = 0 + pre (descL a) (j + 1) := psums_get _ _ _ q1
   have e2 : (partL b)[j] = 0 + pre (descL b) (j + 1) := psums_get _ _ _ q2
   have := h3 (j + 1)
   omega
theorem ext_rd {x t : List Int} (hl : x.length = t.length) (h : ∀ k : Nat, k < x.length → rd x (k : Int) = rd t (k : Int)) : x = t := by
 refine List.ext_getElem hl fun k h1 h2 => ?_
 have := h k h1
 rw [rdn h1, rdn h2] at this
 exact this
theorem desc_rd {x : List Int} (h : Desc x) {a b : Nat} (hab : a ≤ b) (hb : b < x.length) : rd x (b : Int) ≤ rd x (a : Int) := by
 rw [rdn hb, rdn (show a < x.length by omega)]
 rcases Nat.lt_or_ge a b with hlt | hge
 · unfold Desc at h
   exact List.pairwise_iff_getElem.1 h a b (by omega) hb hlt
 · have : a = b := by omega
   subst this; exact Int.le_refl _
theorem desc_of_rd {x : List Int} (h : ∀ k : Nat, k + 1 < x.length → rd x ((k + 1 : Nat) : Int) ≤ rd x (k : Int)) : Desc x := by
 have key : ∀ (d a : Nat), a + d < x.length → rd x ((a + d : Nat) : Int) ≤ rd x (a : Int) := by
  intro d
  induction d with
  | zero => intro a _; exact Int.le_refl _
  | succ d ih =>
   intro a ha
   have h1 := ih a (by omega)
   have h2 := h (a + d) (by omega)
   have e : a + (d + 1) = a + d + 1 := by omega
   rw [e]
   omega
 unfold Desc
 rw [List.pairwise_iff_getElem]
 intro i j hi hj hij
 have := key (j - i) i (by omega)
 rw [show i + (j - i) = j from by omega, rdn hj, rdn hi] at this
 exact this
structure Nx (x t : List Int) (i j : Nat) : Prop where
 lt : i < j
 hj : j < x.length
 jlt : rd x (j : Int) < rd t (j : Int)
 bef : ∀ k : Nat, k < j → rd t (k : Int) ≤ rd x (k : Int)
 igt : rd t (i : Int) < rd x (i : Int)
 btw : ∀ k : Nat, i < k → k < j → rd x (k : Int) ≤ rd t (k : Int)
theorem least_lt (P : Nat → Prop) (n : Nat) : (∃ k, k < n ∧ P k) → ∃ j, j < n ∧ P j ∧ ∀ k, k < j → ¬ P k := by
 induction n with
 | zero => rintro ⟨k, hk, _⟩; omega
 | succ n ih =>
  rintro ⟨k, hk, hp⟩
  by_cases h : ∃ k, k < n ∧ P k
  · obtain ⟨j, h1, h2, h3⟩ := ih h
    exact ⟨j, by omega, h2, h3⟩
  · refine ⟨k, hk, hp, fun q hq hpq => h ⟨q, by omega, hpq⟩⟩
theorem last_lt (P : Nat → Prop) (n : Nat) : (∃ k, k < n ∧ P k) → ∃ j, j < n ∧ P j ∧ ∀ k, j < k → k < n → ¬ P k := by
 induction n with
 | zero => rintro ⟨k, hk, _⟩; omega
 | succ n ih =>
  rintro ⟨k, hk, hp⟩
  by_cases h : P n
  · exact ⟨n, by omega, h, fun q h1 h2 => by omega⟩
  · have hk' : k < n := by
     rcases Nat.lt_or_ge k n with h' | h'
     · exact h'
     · have : k = n := by omega
       subst this; exact absurd hp h
    obtain ⟨j, h1, h2, h3⟩ := ih ⟨k, hk', hp⟩
    refine ⟨j, by omega, h2, fun q hq hq2 => ?_⟩
    rcases Nat.lt_or_ge q n with h' | h'
    · exact h3 q hq h'
    · have : q = n := by omega
      subst this; exact h
theorem pre_le {x t : List Int} (hl : x.length = t.length) : ∀ m : Nat, m ≤ x.length → (∀ k : Nat, k < m → rd x (k : Int) ≤ rd t (k : Int)) → pre x m ≤ pre t m
 | 0, _, _ => by rw [pre_zero, pre_zero]; exact Int.le_refl _
 | m + 1, hm, h => by
  have ih := pre_le hl m (by omega) (fun k hk => h k (by omega))
  have := h m (by omega)
  rw [pre_succ (by omega), pre_succ (by omega)]
  omega
theorem pre_lt {x t : List Int} (hl : x.length = t.length) : ∀ m : Nat, m ≤ x.length → (∀ k : Nat, k < m → rd x (k : Int) ≤ rd t (k : Int)) → (∃ k : Nat, k < m ∧ rd x (k : Int) < rd t (k : Int)) → pre x m < pre t m
 | 0, _, _, ⟨k, hk, _⟩ => by omega
 | m + 1, hm, h, ⟨k, hk, hk2⟩ => by
  have h2 := h m (by omega)
  rw [pre_succ (by omega), pre_succ (by omega)]
  rcases Nat.lt_or_ge k m with hlt | hge
  · have := pre_lt hl m (by omega) (fun k hk => h k (by omega)) ⟨k, hlt, hk2⟩
    omega
  · have : k = m := by omega
    subst this; have := pre_le hl k (by omega) (fun k hk => h k (by omega))
    omega
theorem nx_exists {x t : List Int} (hd : Dom x t) (hne : x ≠ t) : ∃ i j, Nx x t i j := by
 obtain ⟨hl, hs, hp⟩ := hd
 have h1 : ∃ k : Nat, k < x.length ∧ rd x (k : Int) < rd t (k : Int) := by
  refine Classical.byContradiction fun hno => ?_
  have hge : ∀ k : Nat, k < x.length → rd t (k : Int) ≤ rd x (k : Int) := fun k hk => by
   rcases Int.lt_or_le (rd x (k : Int)) (rd t (k : Int)) with h | h
   · exact absurd ⟨k, hk, h⟩ hno
   · exact h
  refine hne (ext_rd hl fun k hk => ?_)
  rcases Int.lt_or_le (rd t (k : Int)) (rd x (k : Int)) with h | h
  · have := pre_lt hl.symm x.length (by omega) (fun k hk => hge k hk) ⟨k, hk, h⟩
    rw [pre_all (by omega), pre_all (by omega)] at this
    omega
  · have := hge k hk
    omega
 obtain ⟨j, hj, hjlt, hbef⟩ := least_lt _ _ h1
 have hbef' : ∀ k : Nat, k < j → rd t (k : Int) ≤ rd x (k : Int) := fun k hk => by
  have := hbef k hk
  omega
 have h2 : ∃ k : Nat, k < j ∧ rd t (k : Int) < rd x (k : Int) := by
  refine Classical.byContradiction fun hno => ?_
  have hle : ∀ k : Nat, k < j + 1 → rd x (k : Int) ≤ rd t (k : Int) := fun k hk => by
   rcases Nat.lt_or_ge k j with h | h
   · rcases Int.lt_or_le (rd t (k : Int)) (rd x (k : Int)) with h' | h'
     · exact absurd ⟨k, h, h'⟩ hno
     · exact h'
   · have : k = j := by omega
     subst this; omega
  have := pre_lt hl (j + 1) (by omega) hle ⟨j, by omega, hjlt⟩
  have := hp (j + 1)
  omega
 obtain ⟨i, hi, higt, hbtw⟩ := last_lt _ _ h2
 exact ⟨i, j, hi, hj, hjlt, hbef', higt, fun k h1 h2 => by
  have := hbtw k h1 h2
  omega⟩
theorem giveL_length (l : List Int) (f t a : Int) : (giveL l f t a).length = l.length := by
 unfold giveL
 rw [List.length_set, List.length_set]
theorem giveL_rd (l : List Int) (i j : Nat) (a : Int) (hi : i < l.length) (hj : j < l.length) (hij : i ≠ j) (k : Nat) : rd (giveL l (i : Int) (j : Int) a) (k : Int) = if k = j then rd l (j : Int) + a else if k = i then rd l (i : Int) - a else rd l (k : Int) := by
 unfold giveL
 by_cases h1 : k = j
 · subst h1
   rw [if_pos rfl, rd_set_self _ (by omega) (by rw [List.length_set]; omega)]
 · rw [if_neg h1, rd_set_ne _ (by omega) (by omega) (by omega)]
   by_cases h2 : k = i
   · subst h2
     rw [if_pos rfl, rd_set_self _ (by omega) (by omega)]
   · rw [if_neg h2, rd_set_ne _ (by omega) (by omega) (by omega)]
theorem giveL_pre (l : List Int) (i j : Nat) (a : Int) (hi : i < l.length) (hj : j < l.length) (hij : i ≠ j) : ∀ m : Nat, m ≤ l.length → pre (giveL l (i : Int) (j : Int) a) m = pre l m - (if i < m then a else 0) + (if j < m then a else 0)
 | 0, _ => by rw [pre_zero, pre_zero, if_neg (by omega), if_neg (by omega)]; omega
 | m + 1, h => by
  rw [pre_succ (by rw [giveL_length]; omega), pre_succ (by omega), giveL_pre l i j a hi hj hij m (by omega), giveL_rd l i j a hi hj hij m]
  by_cases h1 : m = j
  · subst h1
    rw [if_pos rfl, if_neg (show ¬ m < m by omega), if_pos (show m < m + 1 by omega)]
    by_cases h3 : i < m
    · rw [if_pos h3, if_pos (by omega)]; omega
    · rw [if_neg h3, if_neg (by omega)]; omega
  · rw [if_neg h1]
    by_cases h2 : m = i
    · subst h2
      rw [if_pos rfl, if_neg (show ¬ m < m by omega), if_pos (show m < m + 1 by omega)]
      by_cases h3 : j < m
      · rw [if_pos h3, if_pos (by omega)]; omega
      · rw [if_neg h3, if_neg (by omega)]; omega
    · rw [if_neg h2]
      have e1 : i < m + 1 ↔ i < m := by omega
      have e2 : j < m + 1 ↔ j < m := by omega
      simp only [e1, e2]
      omega
theorem giveL_sum (l : List Int) (i j : Nat) (a : Int) (hi : i < l.length) (hj : j < l.length) (hij : i ≠ j) : (giveL l (i : Int) (j : Int) a).sum = l.sum := by
 have h := giveL_pre l i j a hi hj hij l.length (zcf _)
 rw [pre_all (by rw [giveL_length]; omega), pre_all (zcf _), if_pos hi, if_pos hj] at h
 omega
def ex (l : List Int) (t : Int) : Int := (l.map fun x => max (x - t) 0).sum
theorem ex_nil (t : Int) : ex [] t = 0 := rfl
theorem ex_cons (x : Int) (l : List Int) (t : Int) : ex (x :: l) t = max (x - t) 0 + ex l t := by simp [ex]
theorem ex_perm {a b : List Int} (h : a.Perm b) (t : Int) : ex a t = ex b t := perm_sum (h.map _)
theorem ex_desc (a : List Int) (t : Int) : ex (descL a) t = ex a t := ex_perm (descL_perm a) t
theorem ex_nn : ∀ (l : List Int) (t : Int), 0 ≤ ex l t
 | [], t => by rw [ex_nil]; exact Int.le_refl _
 | x :: l, t => by
  have := ex_nn l t
  rw [ex_cons]
  omega
theorem pre_cons (x : Int) (l : List Int) (m : Nat) : pre (x :: l) (m + 1) = x + pre l m := by simp [pre]
theorem pre_ex (t : Int) : ∀ (l : List Int) (m : Nat), m ≤ l.length → pre l m ≤ m * t + ex l t
 | l, 0, _ => by
  have := ex_nn l t
  rw [pre_zero]
  simp
  exact this
 | [], m + 1, h => by simp at h
 | x :: l, m + 1, h => by
  have ih := pre_ex t l m (taay)
  rw [pre_cons, ex_cons, Int.natCast_add, Int.add_mul]
  simp only [Int.natCast_one, Int.one_mul]
  omega
theorem pre_ex_eq (t : Int) : ∀ (l : List Int) (k : Nat), k ≤ l.length → (∀ i (h : i < l.length), i < k → t ≤ l[i]) → (∀ i (h : i < l.length), k ≤ i → l[i] ≤ t) → pre l k = k * t + ex l t
 | [], k, h, _, _ => by
  have : k = 0 := by simpa using h
  subst this; simp [pre_zero, ex_nil]
 | x :: l, 0, h, h1, h2 => by
  have ih := pre_ex_eq t l 0 (Nat.zero_le _) (fun i _ hi => absurd hi (Nat.not_lt_zero _)) (fun i hi _ => h2 (i + 1) (by simpa using hi) (Nat.zero_le _))
  have hx : x ≤ t := h2 0 (taac) (zcf _)
  rw [pre_zero] at ih ⊢
  rw [ex_cons]
  simp at ih ⊢
  omega
 | x :: l, k + 1, h, h1, h2 => by
  have ih := pre_ex_eq t l k (taay) (fun i hi hk => h1 (i + 1) (by simpa using hi) (by omega)) (fun i hi hk => h2 (i + 1) (by simpa using hi) (by omega))
  have hx : t ≤ x := h1 0 (taac) (by omega)
  rw [pre_cons, ex_cons, Int.natCast_add, Int.add_mul]
  simp only [Int.natCast_one, Int.one_mul]
  omega
theorem cut_exists (t : Int) : ∀ (l : List Int), Desc l → ∃ k, k ≤ l.length ∧ (∀ i (h : i < l.length), i < k → t ≤ l[i]) ∧ (∀ i (h : i < l.length), k ≤ i → l[i] ≤ t)
 | [], _ => ⟨0, zcf _, fun i h => absurd h (Nat.not_lt_zero _), fun i h => absurd h (Nat.not_lt_zero _)⟩
 | x :: l, hd => by
  unfold Desc at hd
  rw [List.pairwise_cons] at hd
  by_cases hx : t ≤ x
  · obtain ⟨k, h1, h2, h3⟩ := cut_exists t l hd.2
    refine ⟨k + 1, by simpa using h1, fun i h hi => ?_, fun i h hi => ?_⟩
    · cases i with
      | zero => exact hx
      | succ i => exact h2 i (taay) (by omega)
    · cases i with
      | zero => omega
      | succ i => exact h3 i (taay) (by omega)
  · refine ⟨0, Nat.zero_le _, fun i h hi => absurd hi (Nat.not_lt_zero _), fun i h _ => ?_⟩
    cases i with
    | zero =>
     show x ≤ t
     omega
    | succ i =>
     have hi : i < l.length := by simpa using h
     have := hd.1 l[i] (List.getElem_mem hi)
     show l[i] ≤ t
     omega
theorem ex_pre {l : List Int} (hd : Desc l) (t : Int) : ∃ k, k ≤ l.length ∧ pre l k = k * t + ex l t := by
 obtain ⟨k, h1, h2, h3⟩ := cut_exists t l hd
 exact ⟨k, h1, pre_ex_eq t l k h1 h2 h3⟩
theorem pre_at {l : List Int} (hd : Desc l) (m : Nat) (hm : m < l.length) : pre l (m + 1) = (m + 1 : Nat) * rd l (m : Int) + ex l (rd l (m : Int)) := by
 refine pre_ex_eq _ l (m + 1) hm (fun i h hi => ?_) (fun i h hi => ?_)
 · have := desc_rd hd (show i ≤ m by omega) hm
   rw [rdn h] at this
   exact this
 · have := desc_rd hd (show m ≤ i by omega) h
   rw [rdn h] at this
   exact this
theorem dom_ex {x y : List Int} (hx : Desc x) (hy : Desc y) : Dom y x ↔ x.length = y.length ∧ x.sum = y.sum ∧ ∀ t, ex x t ≤ ex y t := by
 unfold Dom
 constructor
 · rintro ⟨h1, h2, h3⟩
   refine ⟨h1.symm, h2.symm, fun t => ?_⟩
   obtain ⟨k, hk, e⟩ := ex_pre hx t
   have a := h3 k; have b := pre_ex t y k (by omega)
   omega
 · rintro ⟨h1, h2, h3⟩
   refine ⟨h1.symm, h2.symm, fun m => ?_⟩
   cases m with
   | zero => rw [pre_zero, pre_zero]; exact Int.le_refl _
   | succ m =>
    by_cases hm : m < y.length
    · have a := pre_at hy m hm
      have b := pre_ex (rd y (m : Int)) x (m + 1) (by omega)
      have c := h3 (rd y (m : Int))
      omega
    · rw [pre_all (by omega), pre_all (by omega)]
      omega
theorem maj_ex (a b : List Int) : majB a b = true ↔ a.length = b.length ∧ a.sum = b.sum ∧ ∀ t, ex a t ≤ ex b t := by
 rw [majB_dom, dom_ex (descL_desc a) (descL_desc b), descL_length, descL_length, descL_sum, descL_sum]
 simp only [ex_desc]
theorem maj_trans {a b c : List Int} (h1 : majB a b = true) (h2 : majB b c = true) : majB a c = true := by
 rw [maj_ex] at *
 exact ⟨by omega, by omega, fun t => Int.le_trans (h1.2.2 t) (h2.2.2 t)⟩
theorem maj_refl (a : List Int) : majB a a = true := (maj_ex a a).2 ⟨rfl, rfl, fun _ => Int.le_refl _⟩
theorem gt_desc : ∀ (d : List Int), Desc d → ∀ (i j : Nat) (h : i < d.length), i < gtN d j ↔ (j : Int) < d[i]
 | [], _, i, j, h => by simp at h
 | x :: l, hd, i, j, h => by
  unfold Desc at hd
  rw [List.pairwise_cons] at hd
  have hz : ¬ (j : Int) < x → gtN l j = 0 := fun hx => by
   unfold gtN
   rw [List.countP_eq_zero]
   intro y hy
   have := hd.1 y hy
   simp
   omega
  have e : gtN (x :: l) j = gtN l j + if (j : Int) < x then 1 else 0 := by
   unfold gtN
   rw [List.countP_cons]
   by_cases h : (j : Int) < x <;> simp [h]
  rw [e]
  cases i with
  | zero =>
   by_cases hx : (j : Int) < x
   · simp [hx]
   · simp [hx, hz hx]
  | succ i =>
   have hi : i < l.length := by simpa using h
   have ih := gt_desc l hd.2 i j hi
   by_cases hx : (j : Int) < x
   · simp only [if_pos hx, List.getElem_cons_succ]
     rw [← ih]
     omega
   · have := hd.1 l[i] (List.getElem_mem hi)
     simp only [if_neg hx, hz hx, List.getElem_cons_succ]
     omega
theorem gtN_perm {a b : List Int} (h : a.Perm b) (j : Nat) : gtN a j = gtN b j := h.countP_eq _
theorem maj_antisymm {a b : List Int} (h1 : majB a b = true) (h2 : majB b a = true) : descL a = descL b := ((maj_both a b).1 ⟨h1, h2⟩).2
theorem maj_desc_l (a b : List Int) : majB (descL a) b = majB a b := by
 rw [Bool.eq_iff_iff, maj_ex, maj_ex, descL_length, descL_sum]
 simp only [ex_desc]
theorem maj_desc_r (a b : List Int) : majB a (descL b) = majB a b := by
 rw [Bool.eq_iff_iff, maj_ex, maj_ex, descL_length, descL_sum]
 simp only [ex_desc]


theorem tmod_bd (x n : Int) (h0 : 0 ≤ x) (hn : 0 < n) : 0 ≤ Int.tmod x n ∧ Int.tmod x n < n := by
 rw [Int.tmod_eq_emod_of_nonneg h0]
 exact ⟨Int.emod_nonneg _ (by omega), Int.emod_lt_of_pos _ hn⟩
theorem and255 (z : Int) : 0 ≤ Go.bits .and .u64 (IntKind.u64.wrap z / 1099511627776) 255 ∧ Go.bits .and .u64 (IntKind.u64.wrap z / 1099511627776) 255 ≤ 255 := by
 have e := IntKind.wrap_u64 z
 have h := bits_mask .u64 64 (by decide) wraps_u64 8 (by decide) (IntKind.u64.wrap z / 1099511627776) (by omega) (by omega)
 have h' : Go.bits .and .u64 (IntKind.u64.wrap z / 1099511627776) 255 = IntKind.u64.wrap z / 1099511627776 % 256 := by simpa using h
 rw [h']
 omega
def Bytes (l : List Int) : Prop := l.length ≤ 1048576 ∧ ∀ x ∈ l, 0 ≤ x ∧ x ≤ 255
theorem next_ev (l : List Int) (hl : Bytes l) (a s : Int) (h0 : 0 ≤ a) (h1 : a ≤ 1000000000) : ∃ x s', spec_l1Cur_next.f l a s = some (x, a + 1, s') ∧ 0 ≤ x ∧ x ≤ 255 := by
 have hb := hl.1
 unfold spec_l1Cur_next.f
 rw [w64 (x := a + 1) (by omega) (by omega)]
 by_cases c : a < (l.length : Int)
 · simp only [if_pos c, if_pos h0]
   have hx := hl.2 _ (rd_mem h0 c)
   by_cases c2 : a + 1 ≤ (l.length : Int)
   · simp only [if_pos c2]
     refine ⟨_, _, rfl, ?_⟩
     rw [w64 (by omega) (by omega)]
     exact hx
   · omega
 · simp only [if_neg c]
   by_cases c2 : a + 1 ≤ (l.length : Int)
   · omega
   · simp only [if_neg c2]
     refine ⟨_, _, rfl, ?_⟩
     have := and255 (IntKind.u64.wrap (IntKind.u64.wrap (s * 6364136223846793005) + 0) + 1442695040888963407)
     rw [w64 (by omega) (by omega)]
     exact this
theorem pick_ev (l : List Int) (hl : Bytes l) (a s n : Int) (h0 : 0 ≤ a) (h1 : a ≤ 900000000) : ∃ x a' s', spec_l1Cur_pick.f l a s n = some (x, a', s') ∧ 0 ≤ x ∧ (x = 0 ∨ x < n) ∧ a ≤ a' ∧ a' ≤ a + 2 := by
 unfold spec_l1Cur_pick.f
 by_cases c : n ≤ 1
 · simp only [if_pos c]
   exact ⟨_, _, _, rfl, by omega, by omega, by omega, by omega⟩
 · simp only [if_neg c]
   obtain ⟨x, s1, e1, b1, b2⟩ := next_ev l hl a s h0 (by omega)
   simp only [e1, zbb]
   by_cases c2 : n > 200
   · simp only [if_pos c2]
     obtain ⟨y, s2, e2, b3, b4⟩ := next_ev l hl (a + 1) s1 (by omega) (by omega)
     simp only [e2, zbb, if_neg (show ¬ n = 0 by omega)]
     have t := tmod_bd (x * 256 + y) n (by omega) (by omega)
     refine ⟨_, _, _, rfl, ?_⟩
     rw [w64 (x := x * 256) (by omega) (by omega), w64 (x := x * 256 + y) (by omega) (by omega)]
     omega
   · simp only [if_neg c2, if_neg (show ¬ n = 0 by omega)]
     have t := tmod_bd x n (by omega) (by omega)
     exact ⟨_, _, _, rfl, by omega, by omega, by omega, by omega⟩
theorem one_ev (l : List Int) (hl : Bytes l) (a s n : Int) (h0 : 0 ≤ a) (h1 : a ≤ 900000000) : ∃ x a' s', spec_l1Cur_one.f l a s n = some (x, a', s') ∧ a ≤ a' ∧ a' ≤ a + 2 := by
 unfold spec_l1Cur_one.f
 obtain ⟨x, a', s', e, _, _, b1, b2⟩ := pick_ev l hl a s n h0 h1
 simp only [e, zbb]
 exact ⟨_, _, _, rfl, b1, b2⟩
theorem among_ev (l : List Int) (hl : Bytes l) (a s : Int) (L : List Int) (hL : 0 < L.length) (h0 : 0 ≤ a) (h1 : a ≤ 900000000) : ∃ x a' s', spec_l1Cur_among.f l a s L = some (x, a', s') ∧ x ∈ L ∧ a ≤ a' ∧ a' ≤ a + 2 := by
 unfold spec_l1Cur_among.f
 obtain ⟨x, a', s', e, b0, b, b1, b2⟩ := pick_ev l hl a s (L.length : Int) h0 h1
 simp only [e, zbb, if_pos b0, if_pos (show x < (L.length : Int) by omega)]
 exact ⟨_, _, _, rfl, rd_mem b0 (by omega), b1, b2⟩
structure Bd (n m : Int) (l : List Int) : Prop where
 len : (l.length : Int) ≤ n
 low : ∀ x ∈ l, -1 ≤ x
 high : ∀ x ∈ l, x ≤ m
theorem Bd.le {n m n' m' : Int} {l : List Int} (h : Bd n m l) (h1 : n ≤ n') (h2 : m ≤ m') : Bd n' m' l := ⟨by have := h.len; omega, h.low, fun x hx => by have := h.high x hx; omega⟩
theorem Bd.snoc {n m : Int} {l : List Int} (h : Bd n m l) {x : Int} (h1 : -1 ≤ x) (h2 : x ≤ m) : Bd (n + 1) m (l ++ [x]) := by
 refine ⟨by have := h.len; rw [List.length_append]; simp; omega, fun y hy => ?_, fun y hy => ?_⟩
 · rcases List.mem_append.1 hy with hy | hy
   · exact h.low y hy
   · have : y = x := by simpa using hy
     omega
 · rcases List.mem_append.1 hy with hy | hy
   · exact h.high y hy
   · have : y = x := by simpa using hy
     omega
theorem Bd.nil (n m : Int) (h : 0 ≤ n) : Bd n m [] := ⟨taay, fun x hx => by simp at hx, fun x hx => by simp at hx⟩
theorem list_l (l : List Int) (hl : Bytes l) (m : Int) (hm : 0 ≤ m) (hm2 : m ≤ 1000) : ∀ (d : Nat) (acc : List Int) (a s : Int), (d : Int) ≤ 10 → acc.length ≤ 10 → 0 ≤ a → a ≤ 800000000 + 10 * (10 - (d : Int)) → Bd (10 - (d : Int)) m acc → ∃ r a' s', Ev (fun k => spec_l1Cur_list.l0 k m acc (d : Int) l a s) (r, a', s') ∧ Bd 10 m r ∧ a ≤ a' ∧ a' ≤ a + 2 * (d : Int)
 | 0, acc, a, s, hd, hc, h0, h1, hb => by
  refine ⟨acc, a, s, Ev.succ ?_, hb.le (by omega) (by omega), by omega, by omega⟩
  simp only [spec_l1Cur_list.l0, if_neg (show ¬ ((0 : Nat) : Int) > 0 by omega)]
  exact Ev.now _
 | d + 1, acc, a, s, hd, hc, h0, h1, hb => by
  obtain ⟨x, a1, s1, e, b0, b, b1, b2⟩ := pick_ev l hl a s (m + 1) h0 (by omega)
  have hl1 := hb.len
  obtain ⟨r, a', s', h, hr, q1, q2⟩ := list_l l hl m hm hm2 d (acc ++ [x]) a1 s1 (by omega) (tabg) (by omega) (by omega) ((hb.snoc (by omega) (by omega)).le (by omega) (by omega))
  refine ⟨r, a', s', Ev.succ ?_, hr, by omega, by omega⟩
  simp only [spec_l1Cur_list.l0, if_pos (show ((d + 1 : Nat) : Int) > 0 by omega), w64 (x := m + 1) (by omega) (by omega), e, zbb, if_pos (show acc.length < 17592186044416 by omega), w64 (x := ((d + 1 : Nat) : Int) - 1) (by omega) (by omega)]
  rw [show ((d + 1 : Nat) : Int) - 1 = (d : Int) by omega]
  exact h
theorem list_ev (l : List Int) (hl : Bytes l) (m : Int) (hm : 0 ≤ m) (hm2 : m ≤ 1000) (a s : Int) (h0 : 0 ≤ a) (h1 : a ≤ 700000000) : ∃ r a' s', Ev (fun k => spec_l1Cur_list.f k l a s m) (r, a', s') ∧ Bd 10 m r ∧ a ≤ a' ∧ a' ≤ a + 100 := by
 obtain ⟨x, a1, s1, e, b0, b, b1, b2⟩ := pick_ev l hl a s 6 h0 (by omega)
 obtain ⟨d, hd⟩ := Int.eq_ofNat_of_zero_le (show 0 ≤ 1 + x by omega)
 have hd' : 1 + x = (d : Int) := hd
 obtain ⟨r, a', s', h, hr, q1, q2⟩ := list_l l hl m hm hm2 d [] a1 s1 (by omega) (taac) (by omega) (by omega) (Bd.nil _ _ (by omega))
 refine ⟨r, a', s', ?_, hr, by omega, by omega⟩
 unfold spec_l1Cur_list.f
 simp only [e, zbb, w64 (x := 1 + x) (by omega) (by omega)]
 rw [hd']
 exact h
theorem any_l (l : List Int) (hl : Bytes l) (m : Int) (hm : 9 ≤ m) (hm2 : m ≤ 1000) : ∀ (d : Nat) (acc : List Int) (a s : Int), d ≤ 12 → acc.length + d = 12 → 0 ≤ a → a ≤ 800000000 + 10 * (acc.length : Int) → Bd 12 m acc → ∃ r a' s', Ev (fun k => spec_l1Cur_anyList.l0 k acc l a s) (r, a', s') ∧ Bd 12 m r ∧ a ≤ a' ∧ a' ≤ a + 2 + 4 * (d : Int)
 | 0, acc, a, s, hd, hc, h0, h1, hb => by
  obtain ⟨x, a1, s1, e, b0, b, b1, b2⟩ := pick_ev l hl a s 2 h0 (by omega)
  refine ⟨acc, a1, s1, Ev.succ ?_, hb, by omega, by omega⟩
  simp only [spec_l1Cur_anyList.l0, e, zbb, w64 (x := 8 + x) (by omega) (by omega), if_neg (show ¬ (acc.length : Int) < 8 + x by omega)]
  exact Ev.now _
 | d + 1, acc, a, s, hd, hc, h0, h1, hb => by
  obtain ⟨x, a1, s1, e, b0, b, b1, b2⟩ := pick_ev l hl a s 2 h0 (by omega)
  by_cases c : (acc.length : Int) < 8 + x
  · obtain ⟨y, a2, s2, e2, c0, c3, c1, c2⟩ := pick_ev l hl a1 s1 9 (by omega) (by omega)
    have hbb : Bd 12 m (acc ++ [y]) := by
     refine ⟨tabg, fun z hz => ?_, fun z hz => ?_⟩
     · rcases List.mem_append.1 hz with hz | hz
       · exact hb.low z hz
       · have : z = y := by simpa using hz
         omega
     · rcases List.mem_append.1 hz with hz | hz
       · exact hb.high z hz
       · have : z = y := by simpa using hz
         omega
    obtain ⟨r, a', s', h, hr, q1, q2⟩ := any_l l hl m hm hm2 d (acc ++ [y]) a2 s2 (by omega) (tabg) (by omega) (tabg) hbb
    refine ⟨r, a', s', Ev.succ ?_, hr, by omega, by omega⟩
    simp only [spec_l1Cur_anyList.l0, e, zbb, w64 (x := 8 + x) (by omega) (by omega), if_pos c, e2, if_pos (show acc.length < 17592186044416 by omega)]
    exact h
  · refine ⟨acc, a1, s1, Ev.succ ?_, hb, by omega, by omega⟩
    simp only [spec_l1Cur_anyList.l0, e, zbb, w64 (x := 8 + x) (by omega) (by omega), if_neg c]
    exact Ev.now _
theorem anyList_ev (l : List Int) (hl : Bytes l) (m : Int) (hm : 0 ≤ m) (hm2 : m ≤ 1000) (a s : Int) (h0 : 0 ≤ a) (h1 : a ≤ 600000000) : ∃ r a' s', Ev (fun k => spec_l1Cur_anyList.f k l a s m) (r, a', s') ∧ Bd 12 (max m 61) r ∧ a ≤ a' ∧ a' ≤ a + 200 := by
 obtain ⟨L, a1, s1, e1, hL, b1, b2⟩ := list_ev l hl m hm hm2 a s h0 (by omega)
 obtain ⟨x, a2, s2, e2, c0, c3, c1, c2⟩ := pick_ev l hl a1 s1 14 (by omega) (by omega)
 have hlen := hL.len
 have hL' : Bd 12 (max m 61) L := hL.le (by omega) (by omega)
 by_cases t0 : x = 0
 · obtain ⟨y, a3, s3, e3, hy, d1, d2⟩ := among_ev l hl a2 s2 [-1, 0, 60, 61] (taac) (by omega) (by omega)
   have hy' : -1 ≤ y ∧ y ≤ 61 := by
    simp at hy
    omega
   refine ⟨L ++ [y], a3, s3, ?_, (Bd.snoc (hL.le (n' := 10) (m' := max m 61) (by omega) (by omega)) hy'.1 (by omega)).le (by omega) (by omega), by omega, by omega⟩
   unfold spec_l1Cur_anyList.f
   refine Ev.bind e1 ?_
   simp only [e2, zbb, if_pos t0, e3, if_pos (show L.length < 17592186044416 by omega)]
   exact Ev.now _
 · by_cases t1 : x = 1
   · obtain ⟨r, a3, s3, e3, hr, d1, d2⟩ := any_l l hl (max m 61) (by omega) (by omega) (12 - L.length) L a2 s2 (by omega) (by omega) (by omega) (by omega) hL'
     refine ⟨r, a3, s3, ?_, hr, by omega, by omega⟩
     unfold spec_l1Cur_anyList.f
     refine Ev.bind e1 ?_
     simp only [e2, zbb, if_neg t0, if_pos t1]
     exact e3
   · by_cases t2 : x = 2
     · refine ⟨[], a2, s2, ?_, Bd.nil _ _ (by omega), by omega, by omega⟩
       unfold spec_l1Cur_anyList.f
       refine Ev.bind e1 ?_
       simp only [e2, zbb, if_neg t0, if_neg t1, if_pos t2]
       exact Ev.now _
     · refine ⟨L, a2, s2, ?_, hL', by omega, by omega⟩
       unfold spec_l1Cur_anyList.f
       refine Ev.bind e1 ?_
       simp only [e2, zbb, if_neg t0, if_neg t1, if_neg t2]
       exact Ev.now _



theorem Bd.set {n m : Int} {l : List Int} (h : Bd n m l) (i : Nat) {x : Int} (h1 : -1 ≤ x) (h2 : x ≤ m) : Bd n m (l.set i x) := by
 refine ⟨by rw [List.length_set]; exact h.len, fun y hy => ?_, fun y hy => ?_⟩
 · rcases List.mem_or_eq_of_mem_set hy with hy | rfl
   · exact h.low y hy
   · exact h1
 · rcases List.mem_or_eq_of_mem_set hy with hy | rfl
   · exact h.high y hy
   · exact h2
theorem fit_end (l : List Int) (hl : Bytes l) (b acc : List Int) (n : Int) (hb : Bd 12 100 b) (hx : Bd 12 100 acc) (a s : Int) (h0 : 0 ≤ a) (h1 : a ≤ 800000000) : ∃ x y a' s', Ev (fun k => spec_l1Cur_fitting.j1 k b acc n false l a s) (x, y, a', s') ∧ Bd 12 100 x ∧ Bd 12 100 y ∧ a ≤ a' ∧ a' ≤ a + 10 := by
 obtain ⟨t, a1, s1, e, b1, b2⟩ := one_ev l hl a s 5 h0 (by omega)
 cases t with
 | true =>
  refine ⟨b, acc, a1, s1, Ev.succ ?_, hb, hx, by omega, by omega⟩
  simp only [spec_l1Cur_fitting.j1, zbm, if_false, e, zbb, if_true]
  exact Ev.now _
 | false =>
  refine ⟨acc, b, a1, s1, Ev.succ ?_, hx, hb, by omega, by omega⟩
  simp only [spec_l1Cur_fitting.j1, zbm, if_false, e, zbb]
  exact Ev.now _
theorem fit_l (l : List Int) (hl : Bytes l) (b : List Int) (hb : Bd 12 100 b) : ∀ (d : Nat) (acc : List Int) (a s : Int), (d : Int) ≤ 12 → 0 ≤ a → a ≤ 700000000 - 100 * (d : Int) → Bd 12 (80 - (d : Int)) acc → ∃ x y a' s', Ev (fun k => spec_l1Cur_fitting.l0 k b acc (d : Int) l a s) (x, y, a', s') ∧ Bd 12 100 x ∧ Bd 12 100 y ∧ a ≤ a' ∧ a' ≤ a + 10 + 30 * (d : Int) := by
 intro d
 induction d with
 | zero =>
  intro acc a s hd h0 h1 hacc
  obtain ⟨x, y, a', s', e, q1, q2, q3, q4⟩ := fit_end l hl b acc ((0 : Nat) : Int) hb (hacc.le (by omega) (by omega)) a s h0 (by omega)
  refine ⟨x, y, a', s', Ev.succ ?_, q1, q2, q3, by omega⟩
  simp only [spec_l1Cur_fitting.l0, if_neg (show ¬ ((0 : Nat) : Int) > 0 by omega)]
  exact e
 | succ d ih =>
  intro acc a s hd h0 h1 hacc
  have hlen := hacc.len
  have hbig : Bd 12 100 acc := hacc.le (by omega) (by omega)
  by_cases c : (acc.length : Int) > 1
  · obtain ⟨i, a1, s1, e1, p0, p, p1, p2⟩ := pick_ev l hl a s (acc.length : Int) h0 (by omega)
    obtain ⟨j, a2, s2, e2, r0, r, r1, r2⟩ := pick_ev l hl a1 s1 (acc.length : Int) (by omega) (by omega)
    have hi : i < (acc.length : Int) := by omega
    have hj : j < (acc.length : Int) := by omega
    have b1 := hacc.high _ (rd_mem p0 hi)
    have b2 := hacc.low _ (rd_mem p0 hi)
    have keep : ∀ (a3 s3 : Int), a2 ≤ a3 → a3 ≤ a2 + 2 → ∃ x y a' s', Ev (fun k => spec_l1Cur_fitting.l0 k b acc (wrap64 (((d + 1 : Nat) : Int) - 1)) l a3 s3) (x, y, a', s') ∧ Bd 12 100 x ∧ Bd 12 100 y ∧ a3 ≤ a' ∧ a' ≤ a3 + 10 + 30 * (d : Int) := fun a3 s3 g1 g2 => by
     rw [w64 (by omega) (by omega), show ((d + 1 : Nat) : Int) - 1 = (d : Int) by omega]
     exact ih acc a3 s3 (by omega) (by omega) (by omega) (hacc.le (by omega) (by omega))
    have move : rd acc i > 0 → ∀ (a3 s3 : Int), a2 ≤ a3 → a3 ≤ a2 + 2 → ∃ x y a' s', Ev (fun k => spec_l1Cur_fitting.l0 k b ((acc.set i.toNat (wrap64 (rd acc i - 1))).set j.toNat (wrap64 (rd (acc.set i.toNat (wrap64 (rd acc i - 1))) j + 1))) (wrap64 (((d + 1 : Nat) : Int) - 1)) l a3 s3) (x, y, a', s') ∧ Bd 12 100 x ∧ Bd 12 100 y ∧ a3 ≤ a' ∧ a' ≤ a3 + 10 + 30 * (d : Int) := fun hp a3 s3 g1 g2 => by
     rw [w64 (x := ((d + 1 : Nat) : Int) - 1) (by omega) (by omega), show ((d + 1 : Nat) : Int) - 1 = (d : Int) by omega, w64 (x := rd acc i - 1) (by omega) (by omega)]
     have h1 : Bd 12 (80 - ((d + 1 : Nat) : Int)) (acc.set i.toNat (rd acc i - 1)) := hacc.set _ (by omega) (by omega)
     have c1 := h1.high _ (rd_mem (l := acc.set i.toNat (rd acc i - 1)) r0 (by rw [List.length_set]; exact hj))
     have c2 := h1.low _ (rd_mem (l := acc.set i.toNat (rd acc i - 1)) r0 (by rw [List.length_set]; exact hj))
     rw [w64 (x := rd (acc.set i.toNat (rd acc i - 1)) j + 1) (by omega) (by omega)]
     exact ih _ a3 s3 (by omega) (by omega) (by omega) ((h1.le (n' := 12) (m' := 80 - (d : Int)) (by omega) (by omega)).set _ (by omega) (by omega))
    have body : ∃ x y a' s', Ev (fun k => spec_l1Cur_fitting.j1 k b acc ((d + 1 : Nat) : Int) true l a s) (x, y, a', s') ∧ Bd 12 100 x ∧ Bd 12 100 y ∧ a ≤ a' ∧ a' ≤ a + 20 + 30 * (d : Int) := by
     by_cases t1 : rd acc i > 0
     · by_cases t2 : rd acc i > rd acc j
       · obtain ⟨x, y, a', s', h, q1, q2, q3, q4⟩ := move t1 a2 s2 (by omega) (by omega)
         refine ⟨x, y, a', s', Ev.succ ?_, q1, q2, by omega, by omega⟩
         simp only [spec_l1Cur_fitting.j1, if_true, e1, e2, zbb, if_pos p0, if_pos hi, if_pos t1, if_pos r0, if_pos hj, if_pos t2]
         exact h
       · obtain ⟨t, a3, s3, e3, f1, f2⟩ := one_ev l hl a2 s2 4 (by omega) (by omega)
         cases t with
         | true =>
          obtain ⟨x, y, a', s', h, q1, q2, q3, q4⟩ := move t1 a3 s3 (by omega) (by omega)
          refine ⟨x, y, a', s', Ev.succ ?_, q1, q2, by omega, by omega⟩
          simp only [spec_l1Cur_fitting.j1, if_true, e1, e2, e3, zbb, if_pos p0, if_pos hi, if_pos t1, if_pos r0, if_pos hj, if_neg t2]
          exact h
         | false =>
          obtain ⟨x, y, a', s', h, q1, q2, q3, q4⟩ := keep a3 s3 (by omega) (by omega)
          refine ⟨x, y, a', s', Ev.succ ?_, q1, q2, by omega, by omega⟩
          simp only [spec_l1Cur_fitting.j1, if_true, e1, e2, e3, zbb, if_pos p0, if_pos hi, if_pos t1, if_pos r0, if_pos hj, if_neg t2, zbm, if_false]
          exact h
     · obtain ⟨x, y, a', s', h, q1, q2, q3, q4⟩ := keep a2 s2 (by omega) (by omega)
       refine ⟨x, y, a', s', Ev.succ ?_, q1, q2, by omega, by omega⟩
       simp only [spec_l1Cur_fitting.j1, if_true, e1, e2, zbb, if_pos p0, if_pos hi, if_neg t1]
       exact h
    obtain ⟨x, y, a', s', h, q1, q2, q3, q4⟩ := body
    refine ⟨x, y, a', s', Ev.succ ?_, q1, q2, by omega, by omega⟩
    simp only [spec_l1Cur_fitting.l0, if_pos (show ((d + 1 : Nat) : Int) > 0 by omega), zba c]
    exact h
  · obtain ⟨x, y, a', s', e, q1, q2, q3, q4⟩ := fit_end l hl b acc ((d + 1 : Nat) : Int) hb hbig a s h0 (by omega)
    refine ⟨x, y, a', s', Ev.succ ?_, q1, q2, q3, by omega⟩
    simp only [spec_l1Cur_fitting.l0, if_pos (show ((d + 1 : Nat) : Int) > 0 by omega), zbh c]
    exact e
theorem fitting_ev (l : List Int) (hl : Bytes l) (m : Int) (hm : 0 ≤ m) (hm2 : m ≤ 61) (a s : Int) (h0 : 0 ≤ a) (h1 : a ≤ 500000000) : ∃ x y a' s', Ev (fun k => spec_l1Cur_fitting.f k l a s m) (x, y, a', s') ∧ Bd 12 100 x ∧ Bd 12 100 y ∧ a ≤ a' ∧ a' ≤ a + 1000 := by
 obtain ⟨b, a1, s1, e1, hb, b1, b2⟩ := anyList_ev l hl m hm (by omega) a s h0 (by omega)
 obtain ⟨t, a2, s2, e2, c1, c2⟩ := one_ev l hl a1 s1 5 (by omega) (by omega)
 have hb' : Bd 12 100 b := hb.le (by omega) (by omega)
 cases t with
 | true =>
  obtain ⟨q, a3, s3, e3, hq, d1, d2⟩ := anyList_ev l hl m hm (by omega) a2 s2 (by omega) (by omega)
  refine ⟨q, b, a3, s3, ?_, hq.le (by omega) (by omega), hb', by omega, by omega⟩
  unfold spec_l1Cur_fitting.f
  refine Ev.bind e1 ?_
  simp only [e2, zbb, if_true]
  exact Ev.bind e3 (Ev.now _)
 | false =>
  obtain ⟨n, a3, s3, e3, n0, n1, d1, d2⟩ := pick_ev l hl a2 s2 12 (by omega) (by omega)
  obtain ⟨d, hd⟩ := Int.eq_ofNat_of_zero_le n0
  have hd' : n = (d : Int) := hd
  have hlen := hb.len
  obtain ⟨x, y, a', s', h, q1, q2, q3, q4⟩ := fit_l l hl b hb' d b a3 s3 (by omega) (by omega) (by omega) (hb.le (by omega) (by omega))
  refine ⟨x, y, a', s', ?_, q1, q2, by omega, by omega⟩
  unfold spec_l1Cur_fitting.f
  refine Ev.bind e1 ?_
  simp only [e2, zbb, zbm, if_false, l1Own_eq b (by omega), e3]
  rw [hd']
  exact h




def unitL (p q : List Int) : Int := (List.zipWith (fun x y => max 0 (x - y)) p q).sum
theorem unitL_drop {p q : List Int} {i : Nat} (hi : i < p.length) (hj : i < q.length) : unitL (p.drop i) (q.drop i) = max 0 (p[i] - q[i]) + unitL (p.drop (i + 1)) (q.drop (i + 1)) := by
 unfold unitL
 rw [List.drop_eq_getElem_cons hi, List.drop_eq_getElem_cons hj, List.zipWith_cons_cons, List.sum_cons]
theorem unitL_end {p q : List Int} {i : Nat} (hi : p.length ≤ i) : unitL (p.drop i) (q.drop i) = 0 := by
 unfold unitL
 rw [List.drop_eq_nil_of_le hi]
 rfl
def betB (a b : List Int) : Bool := if goodL a = true then (if goodL b = true then majB a b else false) else false
theorem isBetween_ev (a b : List Int) (ha : a.length ≤ 1048576) (hb : b.length ≤ 1048576) : Ev (fun k => impl_isBetween.f k a b) (betB a b) := by
 unfold impl_isBetween.f betB
 refine Ev.bind (areLists_ev a b ha hb) ?_
 by_cases ga : goodL a = true
 · by_cases gb : goodL b = true
   · simp only [ga, gb, if_true]
     exact Ev.bind (isMajorized_ev a b (good_sm ga) (good_sm gb)) (Ev.now _)
   · simp only [ga, if_true, if_neg gb]
     exact Ev.now _
 · simp only [if_neg ga, zbm, if_false]
   exact Ev.now _
theorem giLists_ev (a b : List Int) (ha : a.length ≤ 1048576) (hb : b.length ≤ 1048576) : Ev (fun k => spec_giLists.f k a b) (betB a b) := by
 unfold spec_giLists.f betB
 refine Ev.bind (liGood_ev a (by omega)) (Ev.ite (fun ga => ?_) (fun _ => Ev.now _))
 refine Ev.bind (liGood_ev b (by omega)) (Ev.ite (fun gb => ?_) (fun _ => Ev.now _))
 exact Ev.bind (liBelow_ev a b (good_sm ga) (good_sm gb)) (Ev.now _)
theorem betB_iff (a b : List Int) : betB a b = true ↔ goodL a = true ∧ goodL b = true ∧ majB a b = true := by
 unfold betB
 split
 · split <;> simp_all
 · simp_all
theorem l1Most_eq (a b : Int) : spec_l1Most.f a b = some (max a b) := by
 unfold spec_l1Most.f
 split <;> (congr 1; omega)
theorem gift_ev (l : List Int) (hl : Bytes l) (a s : Int) (L : List Int) (hL : L.length ≤ 100) (h0 : 0 ≤ a) (h1 : a ≤ 800000000) : ∃ f t m a' s', spec_l1Cur_gift.f l a s L = some (f, t, m, a', s') ∧ (-1000 ≤ f ∧ f ≤ 1000) ∧ (-1000 ≤ t ∧ t ≤ 1000) ∧ (-1000 ≤ m ∧ m ≤ 1000) ∧ a ≤ a' ∧ a' ≤ a + 20 := by
 unfold spec_l1Cur_gift.f
 simp only [l1Most_eq, zbb]
 obtain ⟨n, hn⟩ : ∃ n : Int, n = max 1 (L.length : Int) := ⟨_, rfl⟩
 rw [← hn]
 obtain ⟨x, a1, s1, e1, p0, p, p1, p2⟩ := pick_ev l hl a s n (by omega) (by omega)
 obtain ⟨y, a2, s2, e2, q0, q, q1, q2⟩ := pick_ev l hl a1 s1 n (by omega) (by omega)
 obtain ⟨z, a3, s3, e3, r0, r, r1, r2⟩ := pick_ev l hl a2 s2 3 (by omega) (by omega)
 obtain ⟨w, a4, s4, e4, u0, u, u1, u2⟩ := pick_ev l hl a3 s3 12 (by omega) (by omega)
 simp only [e1, e2, e3, e4, zbb, w64 (x := 1 + z) (by omega) (by omega)]
 by_cases c0 : w = 0
 · obtain ⟨v, a5, s5, e5, hv, d1, d2⟩ := among_ev l hl a4 s4 [-1, 0, 60, 61] (taac) (by omega) (by omega)
   have hv' : -1 ≤ v ∧ v ≤ 61 := by
    simp at hv
    omega
   simp only [if_pos c0, e5, zbb]
   exact ⟨_, _, _, _, _, rfl, by omega, by omega, by omega, by omega, by omega⟩
 · by_cases c1 : w = 1
   · obtain ⟨v, a5, s5, e5, hv, d1, d2⟩ := among_ev l hl a4 s4 [-1, n, x] (taac) (by omega) (by omega)
     have hv' : -1 ≤ v ∧ v ≤ 100 := by
      simp at hv
      omega
     simp only [if_neg c0, if_pos c1, e5, zbb]
     exact ⟨_, _, _, _, _, rfl, by omega, by omega, by omega, by omega, by omega⟩
   · simp only [if_neg c0, if_neg c1]
     exact ⟨_, _, _, _, _, rfl, by omega, by omega, by omega, by omega, by omega⟩
mutual
def impl_path.l0 : Nat → List Int → List Int → Bool → List (S39) → Option ((List (S39)))
 | 0, _, _, _, _ => none
 | k + 1, x0, x1, x2, x7 => (slices_Equal_int_int.f k x0 x1).bind fun t1148 => (if t1148 = true then (some x7) else (impl_path.l1 k x0 x1 x2 x7 0))
def impl_path.l1 : Nat → List Int → List Int → Bool → List (S39) → Int → Option ((List (S39)))
 | 0, _, _, _, _, _ => none
 | k + 1, x0, x1, x2, x7, x8 => if 0 ≤ x8 then (if x8 < (x0.length : Int) then (if x8 < (x1.length : Int) then (if (rd x0 x8) ≥ (rd x1 x8) then (impl_path.l1 k x0 x1 x2 x7 (wrap64 (x8 + 1))) else (impl_path.l2 k x0 x1 x2 x7 x8 x8)) else (none)) else (none)) else (none)
def impl_path.l2 : Nat → List Int → List Int → Bool → List (S39) → Int → Int → Option ((List (S39)))
 | 0, _, _, _, _, _, _ => none
 | k + 1, x0, x1, x2, x7, x8, x9 => if 0 ≤ x9 then (if x9 < (x0.length : Int) then (if x9 < (x1.length : Int) then (if (rd x0 x9) ≤ (rd x1 x9) then (impl_path.l2 k x0 x1 x2 x7 x8 (wrap64 (x9 - 1))) else (if x2 = true then (if x7.length < 5864062014805 then ((impl_given.f x0 x9 x8 1).bind fun t1157 => ((impl_ranking.f t1157).bind fun t1160 => (impl_path.l0 k t1160 x1 x2 (x7 ++ [(⟨x9, x8, 1⟩ : S39)])))) else (none)) else (if 0 ≤ x8 then (if x8 < (x1.length : Int) then (if x8 < (x0.length : Int) then (if x7.length < 5864062014805 then ((impl_given.f x0 x9 x8 (mn (wrap64 ((rd x0 x9) - (rd x1 x9))) (wrap64 ((rd x1 x8) - (rd x0 x8))))).bind fun t1170 => ((impl_ranking.f t1170).bind fun t1173 => (impl_path.l0 k t1173 x1 x2 (x7 ++ [(⟨x9, x8, mn (wrap64 ((rd x0 x9) - (rd x1 x9))) (wrap64 ((rd x1 x8) - (rd x0 x8)))⟩ : S39)])))) else (none)) else (none)) else (none)) else (none)))) else (none)) else (none)) else (none)
end
def impl_path.f (k : Nat) (l0 : List Int) (l1 : List Int) (a2 : Bool) : Option ((List (S39))) := impl_path.l0 k l0 l1 a2 (([] : List (S39)))
theorem mx_eq (a b : Int) : mx a b = max a b := by unfold mx; omega
theorem mn_eq (a b : Int) : mn a b = min a b := by unfold mn; omega
theorem unitL_take {p q : List Int} {m : Nat} (h1 : m < p.length) (h2 : m < q.length) : unitL (p.take (m + 1)) (q.take (m + 1)) = unitL (p.take m) (q.take m) + max 0 (rd p (m : Int) - rd q (m : Int)) := by
 unfold unitL
 rw [← List.take_zipWith, ← List.take_zipWith, List.take_succ_eq_append_getElem (by rw [List.length_zipWith]; omega), List.sum_append, List.getElem_zipWith, rdn h1, rdn h2, List.sum_cons, List.sum_nil, Int.add_zero]
theorem sum_nn : ∀ l : List Int, (∀ x ∈ l, 0 ≤ x) → 0 ≤ l.sum
 | [], _ => by simp
 | x :: l, h => by
  rw [List.sum_cons]
  have := sum_nn l (fun y hy => h y (List.mem_cons_of_mem _ hy))
  have := h x List.mem_cons_self
  omega
theorem unitL_nn (p q : List Int) : 0 ≤ unitL p q := by
 unfold unitL
 refine sum_nn _ ?_
 intro x hx
 obtain ⟨i, hi, rfl⟩ := List.mem_iff_getElem.1 hx
 rw [List.getElem_zipWith]
 omega
structure Gv (x t : List Int) (i j : Nat) (a : Int) : Prop extends Nx x t i j where
 pos : 1 ≤ a
 ai : a ≤ rd x (i : Int) - rd t (i : Int)
 aj : a ≤ rd t (j : Int) - rd x (j : Int)
theorem gv_pre {x t : List Int} {i j : Nat} {a : Int} (hl : x.length = t.length) (g : Gv x t i j a) (hp : ∀ m, pre t m ≤ pre x m) : ∀ m : Nat, i < m → m ≤ j → pre t m + a ≤ pre x m
 | 0, h, _ => by omega
 | m + 1, h, h2 => by
  have := g.hj
  rw [pre_succ (by omega), pre_succ (by omega)]
  rcases Nat.lt_or_ge i m with hlt | hge
  · have := gv_pre hl g hp m hlt (by omega)
    have := g.bef m (by omega)
    omega
  · have : m = i := by omega
    subst this; have := hp m
    have := g.ai
    omega
theorem gv_dom {x t : List Int} {i j : Nat} {a : Int} (hd : Dom x t) (g : Gv x t i j a) : Dom (giveL x (i : Int) (j : Int) a) t := by
 obtain ⟨hl, hs, hp⟩ := hd
 have h1 := g.lt
 have h2 := g.hj
 refine ⟨by rw [giveL_length]; exact hl, by rw [giveL_sum x i j a (by omega) h2 (by omega)]; exact hs, fun m => ?_⟩
 rcases Nat.lt_or_ge x.length m with hm | hm
 · rw [pre_all (by omega), pre_all (by rw [giveL_length]; omega), giveL_sum x i j a (by omega) h2 (by omega)]
   omega
 · rw [giveL_pre x i j a (by omega) h2 (by omega) m hm]
   have := hp m
   by_cases c1 : i < m
   · by_cases c2 : j < m
     · rw [if_pos c1, if_pos c2]; omega
     · rw [if_pos c1, if_neg c2]
       have := gv_pre hl g hp m c1 (by omega)
       omega
   · rw [if_neg c1, if_neg (by omega)]; omega
theorem gv_desc {x t : List Int} {i j : Nat} {a : Int} (hl : x.length = t.length) (hx : Desc x) (ht : Desc t) (g : Gv x t i j a) : Desc (giveL x (i : Int) (j : Int) a) := by
 have h1 := g.lt
 have h2 := g.hj
 have h3 := g.ai
 have h4 := g.aj
 refine desc_of_rd fun k hk => ?_
 rw [giveL_length] at hk
 rw [giveL_rd x i j a (by omega) h2 (by omega), giveL_rd x i j a (by omega) h2 (by omega)]
 have dx := desc_rd hx (a := k) (b := k + 1) (by omega) hk
 have dt := desc_rd ht (a := k) (b := k + 1) (by omega) (by omega)
 have hpos := g.pos
 by_cases c1 : k + 1 = j
 · rw [if_pos c1]
   by_cases c2 : k = i
   · rw [if_neg (by omega), if_pos c2]
     rw [c1, c2] at dt
     omega
   · rw [if_neg (by omega), if_neg c2]
     have := g.bef k (by omega)
     rw [c1] at dt
     omega
 · rw [if_neg c1]
   by_cases c2 : k + 1 = i
   · rw [if_pos c2, if_neg (by omega), if_neg (by omega)]
     rw [c2] at dx
     omega
   · rw [if_neg c2]
     by_cases c3 : k = j
     · rw [if_pos c3]
       rw [c3] at dx
       rw [c3]
       omega
     · rw [if_neg c3]
       by_cases c4 : k = i
       · rw [if_pos c4]
         have hb := g.btw (k + 1) (by omega) (by omega)
         rw [c4] at dt hb
         rw [c4]
         omega
       · rw [if_neg c4]
         exact dx
theorem gv_good {x t : List Int} {i j : Nat} {a : Int} (hl : x.length = t.length) (hx : goodL x = true) (ht : goodL t = true) (g : Gv x t i j a) : goodL (giveL x (i : Int) (j : Int) a) = true := by
 have h1 := g.lt
 have h2 := g.hj
 have h3 := g.ai
 have h4 := g.aj
 have hpos := g.pos
 have b1 := rd_good ht (i := (i : Int)) (by omega) (by omega)
 have b2 := rd_good ht (i := (j : Int)) (by omega) (by omega)
 have b3 := rd_good hx (i := (i : Int)) (by omega) (by omega)
 have b4 := rd_good hx (i := (j : Int)) (by omega) (by omega)
 exact (give_good x (i : Int) (j : Int) _ _ hx (by omega) (by omega) (by omega)).2 (by omega)
theorem gv_unit_m {x t : List Int} {i j : Nat} {a : Int} (hl : x.length = t.length) (g : Gv x t i j a) : ∀ m : Nat, m ≤ x.length → unitL ((giveL x (i : Int) (j : Int) a).take m) (t.take m) = unitL (x.take m) (t.take m) - (if i < m then a else 0)
 | 0, _ => by
  rw [if_neg (by omega)]
  simp [unitL]
 | m + 1, h => by
  have h1 := g.lt
  have h2 := g.hj
  have h3 := g.ai
  have h4 := g.aj
  have hpos := g.pos
  rw [unitL_take (by rw [giveL_length]; omega) (by omega), unitL_take (by omega) (by omega), gv_unit_m hl g m (by omega), giveL_rd x i j a (by omega) h2 (by omega) m]
  by_cases c1 : m = j
  · rw [if_pos c1, if_pos (show i < m by omega), if_pos (show i < m + 1 by omega)]
    rw [c1]
    omega
  · rw [if_neg c1]
    by_cases c2 : m = i
    · rw [if_pos c2, if_neg (show ¬ i < m by omega), if_pos (show i < m + 1 by omega)]
      rw [c2]
      omega
    · rw [if_neg c2]
      have e1 : i < m + 1 ↔ i < m := by omega
      simp only [e1]
      omega
theorem gv_unit {x t : List Int} {i j : Nat} {a : Int} (hl : x.length = t.length) (g : Gv x t i j a) : unitL (giveL x (i : Int) (j : Int) a) t = unitL x t - a := by
 have h := gv_unit_m hl g x.length (zcf _)
 have h1 := g.lt
 have h2 := g.hj
 rw [List.take_of_length_le (by rw [giveL_length]; omega), List.take_of_length_le (by omega), List.take_of_length_le (by omega), if_pos (by omega)] at h
 exact h
def gvA (u : Bool) (x t : List Int) (i j : Nat) : Int := if u = true then 1 else min (rd x (i : Int) - rd t (i : Int)) (rd t (j : Int) - rd x (j : Int))
theorem nx_gv {x t : List Int} {i j : Nat} (u : Bool) (h : Nx x t i j) : Gv x t i j (gvA u x t i j) := by
 have h1 := h.igt
 have h2 := h.jlt
 unfold gvA
 refine ⟨h, ?_, ?_, ?_⟩
 all_goals (split <;> omega)
inductive GP (u : Bool) (t : List Int) : List Int → List (Nat × Nat × Int) → Prop
 | nil : GP u t t []
 | cons {x : List Int} {i j : Nat} {L : List (Nat × Nat × Int)} (hne : x ≠ t) (hn : Nx x t i j) (h : GP u t (giveL x (i : Int) (j : Int) (gvA u x t i j)) L) : GP u t x ((i, j, gvA u x t i j) :: L)
theorem gp_exists (u : Bool) {t : List Int} (ht : Desc t) (htg : goodL t = true) : ∀ (n : Nat) (x : List Int), Dom x t → Desc x → goodL x = true → unitL x t ≤ n → ∃ L, GP u t x L ∧ (L.length : Int) ≤ unitL x t
 | n, x, hd, hx, hg, hu => by
  by_cases hne : x = t
  · subst hne
    exact ⟨[], .nil, by simpa using unitL_nn x x⟩
  · obtain ⟨i, j, hn⟩ := nx_exists hd hne
    have g := nx_gv u hn
    have h1 := gv_unit hd.1 g
    have h2 := unitL_nn (giveL x (i : Int) (j : Int) (gvA u x t i j)) t
    have h3 := g.pos
    match n, hu with
    | 0, hu => omega
    | n + 1, hu =>
     obtain ⟨L, hL, hl⟩ := gp_exists u ht htg n (giveL x (i : Int) (j : Int) (gvA u x t i j)) (gv_dom hd g) (gv_desc hd.1 hx ht g) (gv_good hd.1 hg htg g) (by omega)
     exact ⟨_, .cons hne hn hL, by rw [List.length_cons]; omega⟩
theorem unitL_bd {x t : List Int} (hx : goodL x = true) (ht : goodL t = true) (hl : x.length = t.length) : unitL x t ≤ 480 := by
 have h := (goodL_iff x).1 hx
 have h' := (goodL_iff t).1 ht
 have key : ∀ m : Nat, m ≤ x.length → unitL (x.take m) (t.take m) ≤ 60 * m := by
  intro m
  induction m with
  | zero => intro _; simp [unitL]
  | succ m ih =>
   intro hm
   rw [unitL_take (by omega) (by omega)]
   have := ih (by omega)
   have b1 := rd_good hx (i := (m : Int)) (by omega) (by omega)
   have b2 := rd_good ht (i := (m : Int)) (by omega) (by omega)
   omega
 have := key x.length (zcf _)
 rw [List.take_of_length_le (zcf _), List.take_of_length_le (by omega)] at this
 omega
def toG (L : List (Nat × Nat × Int)) : List S39 := L.map fun g => ⟨(g.1 : Int), (g.2.1 : Int), g.2.2⟩
theorem implNext1 {x t : List Int} {i j : Nat} (u : Bool) (acc : List S39) (r : List S39) (hl : x.length = t.length) (hn : x.length ≤ 1000) (h : Nx x t i j) (hr : Ev (fun K => impl_path.l2 K x t u acc (j : Int) (j : Int)) r) : ∀ (d k : Nat), k + d = j → Ev (fun K => impl_path.l1 K x t u acc (k : Int)) r
 | 0, k, e => by
  have hk : k = j := by omega
  have := h.hj
  have := h.jlt
  subst hk; refine Ev.succ ?_
  simp only [impl_path.l1, if_pos (show (0 : Int) ≤ (k : Int) by omega), if_pos (show (k : Int) < (x.length : Int) by omega), if_pos (show (k : Int) < (t.length : Int) by omega), if_neg (show ¬ rd x (k : Int) ≥ rd t (k : Int) by omega)]
  exact hr
 | d + 1, k, e => by
  have := h.hj
  have := h.bef k (by omega)
  refine Ev.succ ?_
  simp only [impl_path.l1, if_pos (show (0 : Int) ≤ (k : Int) by omega), if_pos (show (k : Int) < (x.length : Int) by omega), if_pos (show (k : Int) < (t.length : Int) by omega), if_pos (show rd x (k : Int) ≥ rd t (k : Int) by omega), wsucc (show k < x.length by omega) (by omega)]
  exact implNext1 u acc r hl hn h hr d (k + 1) (by omega)
theorem implNext2 {x t : List Int} {i j : Nat} (u : Bool) (acc : List S39) (r : List S39) (hl : x.length = t.length) (hn : x.length ≤ 1000) (h : Nx x t i j) (hr : Ev (fun K => impl_path.l2 K x t u acc (j : Int) (i : Int)) r) : ∀ (d k : Nat), i + d = k → k ≤ j → Ev (fun K => impl_path.l2 K x t u acc (j : Int) (k : Int)) r
 | 0, k, e, _ => by
  have hk : k = i := by omega
  subst hk; exact hr
 | d + 1, k, e, hkj => by
  have := h.hj
  have hle : rd x (k : Int) ≤ rd t (k : Int) := by
   rcases Nat.lt_or_ge k j with c | c
   · exact h.btw k (by omega) c
   · have : k = j := by omega
     subst this; have := h.jlt
     omega
  refine Ev.succ ?_
  simp only [impl_path.l2, if_pos (show (0 : Int) ≤ (k : Int) by omega), if_pos (show (k : Int) < (x.length : Int) by omega), if_pos (show (k : Int) < (t.length : Int) by omega), if_pos hle, w64 (x := (k : Int) - 1) (by omega) (by omega)]
  have := implNext2 u acc r hl hn h hr d (k - 1) (by omega) (by omega)
  rw [show (((k - 1 : Nat) : Int)) = (k : Int) - 1 by omega] at this
  exact this
theorem specNext1 {x t : List Int} {i j : Nat} (hl : x.length = t.length) (hn : x.length ≤ 1000) (h : Nx x t i j) : ∀ (d k : Nat), k + d = j → Ev (fun K => spec_giNext.l0 K t x (k : Int)) ((i : Int), (j : Int), 1)
 | 0, k, e => by
  have hk : k = j := by omega
  have := h.hj
  have := h.jlt
  have h3 := h.lt
  subst hk; refine Ev.succ ?_
  simp only [spec_giNext.l0, if_pos (show (0 : Int) ≤ (k : Int) by omega), if_pos (show (k : Int) < (x.length : Int) by omega), if_pos (show (k : Int) < (t.length : Int) by omega), if_neg (show ¬ rd x (k : Int) ≥ rd t (k : Int) by omega), w64 (x := (k : Int) - 1) (by omega) (by omega)]
  have key : ∀ (d m : Nat), i + d = m → m < k → Ev (fun K => spec_giNext.l1 K t x (k : Int) (m : Int)) ((i : Int), (k : Int), 1) := by
   intro d
   induction d with
   | zero =>
    intro m e1 e2
    have hm : m = i := by omega
    subst hm; have := h.igt
    refine Ev.succ ?_
    simp only [spec_giNext.l1, if_pos (show (0 : Int) ≤ (m : Int) by omega), if_pos (show (m : Int) < (x.length : Int) by omega), if_pos (show (m : Int) < (t.length : Int) by omega), if_neg (show ¬ rd x (m : Int) ≤ rd t (m : Int) by omega)]
    exact Ev.now _
   | succ d ih =>
    intro m e1 e2
    have := h.btw m (by omega) e2
    refine Ev.succ ?_
    simp only [spec_giNext.l1, if_pos (show (0 : Int) ≤ (m : Int) by omega), if_pos (show (m : Int) < (x.length : Int) by omega), if_pos (show (m : Int) < (t.length : Int) by omega), if_pos this, w64 (x := (m : Int) - 1) (by omega) (by omega)]
    have := ih (m - 1) (by omega) (by omega)
    rw [show (((m - 1 : Nat) : Int)) = (m : Int) - 1 by omega] at this
    exact this
  have := key (k - 1 - i) (k - 1) (by omega) (by omega)
  rw [show (((k - 1 : Nat) : Int)) = (k : Int) - 1 by omega] at this
  exact this
 | d + 1, k, e => by
  have := h.hj
  have := h.bef k (by omega)
  refine Ev.succ ?_
  simp only [spec_giNext.l0, if_pos (show (0 : Int) ≤ (k : Int) by omega), if_pos (show (k : Int) < (x.length : Int) by omega), if_pos (show (k : Int) < (t.length : Int) by omega), if_pos (show rd x (k : Int) ≥ rd t (k : Int) by omega), wsucc (show k < x.length by omega) (by omega)]
  exact specNext1 hl hn h d (k + 1) (by omega)
theorem gv_done {x t : List Int} {i j : Nat} {a : Int} (hl : x.length = t.length) (hg : goodL x = true) (htg : goodL t = true) (hx : Desc x) (ht : Desc t) (g : Gv x t i j a) : (x.set (i : Int).toNat (wrap64 (rd x (i : Int) - a))).set (j : Int).toNat (wrap64 (rd x (j : Int) + a)) = giveL x (i : Int) (j : Int) a ∧ descL (giveL x (i : Int) (j : Int) a) = giveL x (i : Int) (j : Int) a := by
 have h1 := g.lt
 have h2 := g.hj
 have h3 := g.ai
 have h4 := g.aj
 have hpos := g.pos
 have b1 := rd_good htg (i := (i : Int)) (by omega) (by omega)
 have b2 := rd_good htg (i := (j : Int)) (by omega) (by omega)
 have b3 := rd_good hg (i := (i : Int)) (by omega) (by omega)
 have b4 := rd_good hg (i := (j : Int)) (by omega) (by omega)
 refine ⟨?_, descL_of_desc (gv_desc hl hx ht g)⟩
 rw [w64 (x := rd x (i : Int) - a) (by omega) (by omega), w64 (x := rd x (j : Int) + a) (by omega) (by omega)]
 rfl
theorem implPath_gp (u : Bool) {t : List Int} (ht : Desc t) (htg : goodL t = true) {x : List Int} {L : List (Nat × Nat × Int)} (h : GP u t x L) : ∀ acc : List S39, Dom x t → Desc x → goodL x = true → acc.length + L.length ≤ 1000000 → Ev (fun k => impl_path.l0 k x t u acc) (acc ++ toG L) := by
 induction h with
 | nil =>
  intro acc hd hx hg hb
  refine Ev.succ ?_
  simp only [impl_path.l0]
  have e := slEqual_ev t t (by have := (goodL_iff t).1 htg; omega)
  rw [zba rfl] at e
  refine Ev.bind e ?_
  simp only [if_true, toG, zav, List.append_nil]
  exact Ev.now _
 | @cons x i j L hne hn h ih =>
  intro acc hd hx hg hb
  have g := nx_gv u hn
  have hlen := (goodL_iff x).1 hg
  have hl := hd.1
  rw [List.length_cons] at hb
  obtain ⟨e1, e2⟩ := gv_done hl hg htg hx ht g
  have h1 := hn.lt
  have h2 := hn.hj
  have ih' := ih (acc ++ [⟨(i : Int), (j : Int), gvA u x t i j⟩]) (gv_dom hd g) (gv_desc hl hx ht g) (gv_good hl hg htg g) (by rw [List.length_append, List.length_singleton]; omega)
  have hgv := given_eq x (i : Int) (j : Int) (gvA u x t i j) (by omega) (by omega) (by omega) (by omega)
  rw [e1] at hgv
  have hrk := ranking_eq (good_sm (gv_good hl hg htg g))
  rw [e2] at hrk
  refine Ev.succ ?_
  simp only [impl_path.l0]
  have e := slEqual_ev x t (by omega)
  rw [zbh hne] at e
  refine Ev.bind e ?_
  simp only [zbm, if_false]
  refine implNext1 u acc _ hl (by omega) hn (implNext2 u acc _ hl (by omega) hn (Ev.succ ?_) (j - i) j (by omega) (zcf _)) j 0 (by omega)
  have b1 := rd_good htg (i := (i : Int)) (by omega) (by omega)
  have b2 := rd_good htg (i := (j : Int)) (by omega) (by omega)
  have b3 := rd_good hg (i := (i : Int)) (by omega) (by omega)
  have b4 := rd_good hg (i := (j : Int)) (by omega) (by omega)
  have higt := hn.igt
  simp only [impl_path.l2, if_pos (show (0 : Int) ≤ (i : Int) by omega), if_pos (show (0 : Int) ≤ (j : Int) by omega), if_pos (show (i : Int) < (x.length : Int) by omega), if_pos (show (i : Int) < (t.length : Int) by omega), if_pos (show (j : Int) < (x.length : Int) by omega), if_pos (show (j : Int) < (t.length : Int) by omega), if_neg (show ¬ rd x (i : Int) ≤ rd t (i : Int) by omega), if_pos (show acc.length < 5864062014805 by omega)]
  have er : acc ++ toG ((i, j, gvA u x t i j) :: L) = (acc ++ [⟨(i : Int), (j : Int), gvA u x t i j⟩]) ++ toG L := by simp [toG]
  rw [er]
  cases u with
  | true =>
   have ea : gvA true x t i j = 1 := rfl
   rw [ea] at hgv hrk ih' ⊢
   simp only [if_true, hgv, hrk, zbb]
   exact ih'
  | false =>
   have ea : mn (wrap64 (rd x (i : Int) - rd t (i : Int))) (wrap64 (rd t (j : Int) - rd x (j : Int))) = gvA false x t i j := by
    rw [w64 (x := rd x (i : Int) - rd t (i : Int)) (by omega) (by omega), w64 (x := rd t (j : Int) - rd x (j : Int)) (by omega) (by omega), mn_eq]
    rfl
   simp only [zbm, if_false, ea, hgv, hrk, zbb]
   exact ih'
theorem specPath_gp (u : Bool) {t : List Int} (ht : Desc t) (htg : goodL t = true) {x : List Int} {L : List (Nat × Nat × Int)} (h : GP u t x L) : ∀ acc : List S39, Dom x t → Desc x → goodL x = true → acc.length + L.length ≤ 1000000 → Ev (fun k => spec_giPath.l0 k (!u) t x acc) (acc ++ toG L) := by
 induction h with
 | nil =>
  intro acc hd hx hg hb
  refine Ev.succ ?_
  simp only [spec_giPath.l0]
  have e := l1Same_ev t t (by have := (goodL_iff t).1 htg; omega)
  rw [zba rfl] at e
  refine Ev.bind e ?_
  simp only [if_true, toG, zav, List.append_nil]
  exact Ev.now _
 | @cons x i j L hne hn h ih =>
  intro acc hd hx hg hb
  have g := nx_gv u hn
  have hlen := (goodL_iff x).1 hg
  have hl := hd.1
  rw [List.length_cons] at hb
  obtain ⟨e1, e2⟩ := gv_done hl hg htg hx ht g
  have h1 := hn.lt
  have h2 := hn.hj
  have ih' := ih (acc ++ [⟨(i : Int), (j : Int), gvA u x t i j⟩]) (gv_dom hd g) (gv_desc hl hx ht g) (gv_good hl hg htg g) (by rw [List.length_append, List.length_singleton]; omega)
  have hgv := giDo_eq x (i : Int) (j : Int) (gvA u x t i j) (by omega) (by omega) (by omega) (by omega)
  rw [e1] at hgv
  have hrk := liRank_ev (giveL x (i : Int) (j : Int) (gvA u x t i j)) (by rw [giveL_length]; omega)
  rw [e2] at hrk
  refine Ev.succ ?_
  simp only [spec_giPath.l0]
  have e := l1Same_ev t x (by omega)
  rw [zbh (Ne.symm hne)] at e
  refine Ev.bind e ?_
  simp only [zbm, if_false]
  have en : Ev (fun K => spec_giNext.f K t x) ((i : Int), (j : Int), 1) := specNext1 hl (by omega) hn j 0 (by omega)
  refine Ev.bind en ?_
  have b1 := rd_good htg (i := (i : Int)) (by omega) (by omega)
  have b2 := rd_good htg (i := (j : Int)) (by omega) (by omega)
  have b3 := rd_good hg (i := (i : Int)) (by omega) (by omega)
  have b4 := rd_good hg (i := (j : Int)) (by omega) (by omega)
  simp only [if_pos (show (0 : Int) ≤ (i : Int) by omega), if_pos (show (0 : Int) ≤ (j : Int) by omega), if_pos (show (i : Int) < (x.length : Int) by omega), if_pos (show (i : Int) < (t.length : Int) by omega), if_pos (show (j : Int) < (x.length : Int) by omega), if_pos (show (j : Int) < (t.length : Int) by omega), if_pos (show acc.length < 5864062014805 by omega)]
  have er : acc ++ toG ((i, j, gvA u x t i j) :: L) = (acc ++ [⟨(i : Int), (j : Int), gvA u x t i j⟩]) ++ toG L := by simp [toG]
  rw [er]
  cases u with
  | true =>
   have ea : gvA true x t i j = 1 := rfl
   rw [ea] at hgv hrk ih' ⊢
   simp only [Bool.not_true, zbm, if_false, hgv, zbb]
   exact Ev.bind hrk ih'
  | false =>
   have ea : spec_l1Least.f (wrap64 (rd x (i : Int) - rd t (i : Int))) (wrap64 (rd t (j : Int) - rd x (j : Int))) = some (gvA false x t i j) := by
    rw [w64 (x := rd x (i : Int) - rd t (i : Int)) (by omega) (by omega), w64 (x := rd t (j : Int) - rd x (j : Int)) (by omega) (by omega)]
    unfold spec_l1Least.f gvA
    simp only [zbm, if_false]
    split <;> (congr 1; omega)
   simp only [Bool.not_false, if_true, ea, hgv, zbb]
   exact Ev.bind hrk ih'
noncomputable def gpL (u : Bool) (x t : List Int) : List (Nat × Nat × Int) := open Classical in if h : ∃ L, GP u t x L ∧ (L.length : Int) ≤ unitL x t then h.choose else []
theorem gpL_spec (u : Bool) {x t : List Int} (hd : Dom x t) (hx : Desc x) (ht : Desc t) (hg : goodL x = true) (htg : goodL t = true) : GP u t x (gpL u x t) ∧ ((gpL u x t).length : Int) ≤ unitL x t := by
 have hu := unitL_nn x t
 have h := gp_exists u ht htg (unitL x t).toNat x hd hx hg (by omega)
 unfold gpL
 rw [dif_pos h]
 exact h.choose_spec
theorem toG_length (L : List (Nat × Nat × Int)) : (toG L).length = L.length := by simp [toG]
noncomputable def pathL (u : Bool) (a b : List Int) : List S39 := toG (gpL u (descL b) (descL a))
theorem pathL_ev (u : Bool) (a b : List Int) (h : betB a b = true) : Ev (fun k => impl_path.f k (descL b) (descL a) u) (pathL u a b) ∧ Ev (fun k => spec_giPath.f k a b (!u)) (pathL u a b) ∧ (pathL u a b).length ≤ 480 := by
 obtain ⟨ga, gb, hm⟩ := (betB_iff a b).1 h
 have hd := (majB_dom a b).1 hm
 have ga' : goodL (descL a) = true := by rw [good_desc]; exact ga
 have gb' : goodL (descL b) = true := by rw [good_desc]; exact gb
 obtain ⟨hG, hlen⟩ := gpL_spec u hd (descL_desc b) (descL_desc a) gb' ga'
 have hbd := unitL_bd gb' ga' hd.1
 refine ⟨?_, ?_, by unfold pathL; rw [toG_length]; omega⟩
 · have := implPath_gp u (descL_desc a) ga' hG [] hd (descL_desc b) gb' (by rw [List.length_nil]; omega)
   rw [List.nil_append] at this
   exact this
 · have := specPath_gp u (descL_desc a) ga' hG [] hd (descL_desc b) gb' (by rw [List.length_nil]; omega)
   rw [List.nil_append] at this
   unfold spec_giPath.f
   exact Ev.bind (liRank_ev a (by have := (good_sm ga).1; omega)) (Ev.bind (liRank_ev b (by have := (good_sm gb).1; omega)) this)
theorem maj_l (l : List Int) (hl : Bytes l) (b : List Int) (hb : Bd 12 100 b) : ∀ (d : Nat) (acc : List Int) (a s : Int), (d : Int) ≤ 12 → 0 ≤ a → a ≤ 700000000 - 100 * (d : Int) → Bd 12 100 acc → ∃ x y a' s', Ev (fun k => spec_l1Cur_majorized.l0 k b acc (d : Int) l a s) (x, y, a', s') ∧ Bd 12 100 x ∧ Bd 12 100 y ∧ a ≤ a' ∧ a' ≤ a + 10 + 30 * (d : Int) := by
 intro d
 have fin : ∀ (acc : List Int) (n a s : Int), Bd 12 100 acc → ∃ x y a' s', Ev (fun k => spec_l1Cur_majorized.j1 k b acc n false l a s) (x, y, a', s') ∧ Bd 12 100 x ∧ Bd 12 100 y ∧ a ≤ a' ∧ a' ≤ a := fun acc n a s h => by
  refine ⟨acc, b, a, s, Ev.succ ?_, h, hb, by omega, by omega⟩
  simp only [spec_l1Cur_majorized.j1, zbm, if_false]
  exact Ev.now _
 induction d with
 | zero =>
  intro acc a s hd h0 h1 hacc
  obtain ⟨x, y, a', s', e, q1, q2, q3, q4⟩ := fin acc ((0 : Nat) : Int) a s hacc
  refine ⟨x, y, a', s', Ev.succ ?_, q1, q2, q3, by omega⟩
  simp only [spec_l1Cur_majorized.l0, if_neg (show ¬ ((0 : Nat) : Int) > 0 by omega)]
  exact e
 | succ d ih =>
  intro acc a s hd h0 h1 hacc
  by_cases c : (acc.length : Int) > 1
  · obtain ⟨i, a1, s1, e1, p0, p, p1, p2⟩ := pick_ev l hl a s (acc.length : Int) h0 (by omega)
    obtain ⟨j, a2, s2, e2, r0, r, r1, r2⟩ := pick_ev l hl a1 s1 (acc.length : Int) (by omega) (by omega)
    have hi : i < (acc.length : Int) := by omega
    have hj : j < (acc.length : Int) := by omega
    have b1 := hacc.high _ (rd_mem p0 hi)
    have b2 := hacc.low _ (rd_mem p0 hi)
    have b3 := hacc.high _ (rd_mem r0 hj)
    have b4 := hacc.low _ (rd_mem r0 hj)
    have ed : wrap64 (((d + 1 : Nat) : Int) - 1) = (d : Int) := by rw [w64 (by omega) (by omega)]; omega
    by_cases t : rd acc i ≥ rd acc j + 2
    · have h1' : Bd 12 100 (acc.set i.toNat (rd acc i - 1)) := hacc.set _ (by omega) (by omega)
      have hne : i ≠ j := fun e => by rw [e] at t; omega
      have er : rd (acc.set i.toNat (rd acc i - 1)) j = rd acc j := rd_set_ne _ p0 r0 hne
      have h2' : Bd 12 100 ((acc.set i.toNat (rd acc i - 1)).set j.toNat (rd acc j + 1)) := h1'.set _ (by omega) (by omega)
      obtain ⟨x, y, a', s', e, q1, q2, q3, q4⟩ := ih _ a2 s2 (by omega) (by omega) (by omega) h2'
      refine ⟨x, y, a', s', Ev.succ ?_, q1, q2, by omega, by omega⟩
      simp only [spec_l1Cur_majorized.l0, if_pos (show ((d + 1 : Nat) : Int) > 0 by omega), zba c]
      refine Ev.succ ?_
      simp only [spec_l1Cur_majorized.j1, if_true, e1, e2, zbb, if_pos p0, if_pos hi, if_pos r0, if_pos hj, w64 (x := rd acc j + 2) (by omega) (by omega), if_pos t, w64 (x := rd acc i - 1) (by omega) (by omega), er, w64 (x := rd acc j + 1) (by omega) (by omega), ed]
      exact e
    · obtain ⟨x, y, a', s', e, q1, q2, q3, q4⟩ := ih acc a2 s2 (by omega) (by omega) (by omega) hacc
      refine ⟨x, y, a', s', Ev.succ ?_, q1, q2, by omega, by omega⟩
      simp only [spec_l1Cur_majorized.l0, if_pos (show ((d + 1 : Nat) : Int) > 0 by omega), zba c]
      refine Ev.succ ?_
      simp only [spec_l1Cur_majorized.j1, if_true, e1, e2, zbb, if_pos p0, if_pos hi, if_pos r0, if_pos hj, w64 (x := rd acc j + 2) (by omega) (by omega), if_neg t, ed]
      exact e
  · obtain ⟨x, y, a', s', e, q1, q2, q3, q4⟩ := fin acc ((d + 1 : Nat) : Int) a s hacc
    refine ⟨x, y, a', s', Ev.succ ?_, q1, q2, q3, by omega⟩
    simp only [spec_l1Cur_majorized.l0, if_pos (show ((d + 1 : Nat) : Int) > 0 by omega), zbh c]
    exact e
theorem majorized_ev (l : List Int) (hl : Bytes l) (m : Int) (hm : 0 ≤ m) (hm2 : m ≤ 61) (a s : Int) (h0 : 0 ≤ a) (h1 : a ≤ 400000000) : ∃ x y a' s', Ev (fun k => spec_l1Cur_majorized.f k l a s m) (x, y, a', s') ∧ Bd 12 100 x ∧ Bd 12 100 y ∧ a ≤ a' ∧ a' ≤ a + 2000 := by
 obtain ⟨b, a1, s1, e1, hb, b1, b2⟩ := list_ev l hl m hm (by omega) a s h0 (by omega)
 obtain ⟨t, a2, s2, e2, c1, c2⟩ := one_ev l hl a1 s1 8 (by omega) (by omega)
 have hb' : Bd 12 100 b := hb.le (by omega) (by omega)
 cases t with
 | true =>
  obtain ⟨x, y, a3, s3, e3, hx, hy, d1, d2⟩ := fitting_ev l hl m hm hm2 a2 s2 (by omega) (by omega)
  refine ⟨x, y, a3, s3, ?_, hx, hy, by omega, by omega⟩
  unfold spec_l1Cur_majorized.f
  refine Ev.bind e1 ?_
  simp only [e2, zbb, if_true]
  exact Ev.bind e3 (Ev.now _)
 | false =>
  obtain ⟨n, a3, s3, e3, n0, n1, d1, d2⟩ := pick_ev l hl a2 s2 9 (by omega) (by omega)
  obtain ⟨d, hd⟩ := Int.eq_ofNat_of_zero_le n0
  have hd' : n = (d : Int) := hd
  have hlen := hb.len
  obtain ⟨x, y, a', s', h, q1, q2, q3, q4⟩ := maj_l l hl b hb' d b a3 s3 (by omega) (by omega) (by omega) hb'
  refine ⟨x, y, a', s', ?_, q1, q2, by omega, by omega⟩
  unfold spec_l1Cur_majorized.f
  refine Ev.bind e1 ?_
  simp only [e2, zbb, zbm, if_false, l1Own_eq b (by omega), e3]
  rw [hd']
  exact h
theorem giPath_any (a b : List Int) (big : Bool) (h : betB a b = true) : ∃ p : List S39, Ev (fun k => spec_giPath.f k a b big) p ∧ p.length ≤ 480 := by
 obtain ⟨_, h2, h3⟩ := pathL_ev (!big) a b h
 rw [Bool.not_not] at h2
 exact ⟨_, h2, h3⟩
theorem igpath_l0 (x y : List Int) : ∀ (d i : Nat) (p : List S39), i + d = p.length → p.length ≤ 1000 → ∃ q : List S39, Ev (fun k => spec_DrawIsGiftPath.l0 k x y p (p.length : Int) (i : Int)) (x, y, q) ∧ q.length ≤ 1000 := by
 intro d
 induction d with
 | zero =>
  intro i p h hp
  refine ⟨p, Ev.succ ?_, hp⟩
  simp only [spec_DrawIsGiftPath.l0, if_neg (show ¬ (i : Int) < (p.length : Int) by omega)]
  exact Ev.now _
 | succ d ih =>
  intro i p h hp
  have hi : i < p.length := by omega
  obtain ⟨q, e, hq⟩ := ih (i + 1) (p.set i ⟨0, 1, 1⟩) (by rw [List.length_set]; omega) (by rw [List.length_set]; exact hp)
  refine ⟨q, Ev.succ ?_, hq⟩
  rw [List.length_set] at e
  simp only [spec_DrawIsGiftPath.l0, if_pos (show (i : Int) < (p.length : Int) by omega), if_pos (show (0 : Int) ≤ (i : Int) by omega), wsucc hi (by omega), Int.toNat_natCast]
  exact e
theorem igpath_j0 (l : List Int) (hl : Bytes l) (x y : List Int) (hx : Bd 12 100 x) (p : List S39) (hp : p.length ≤ 480) (a s : Int) (h0 : 0 ≤ a) (h1 : a ≤ 500000000) : ∃ q : List S39, Ev (fun k => spec_DrawIsGiftPath.j0 k x y p l a s) (x, y, q) ∧ q.length ≤ 1000 := by
 have hlx := hx.len
 obtain ⟨n, a1, s1, e1, n0, n1, b1, b2⟩ := pick_ev l hl a s 8 h0 (by omega)
 by_cases c0 : n = 0
 · obtain ⟨f, t, m, a2, s2, e2, _, _, _, _, _⟩ := gift_ev l hl a1 s1 x (by omega) (by omega) (by omega)
   refine ⟨p ++ [⟨f, t, m⟩], Ev.succ ?_, tabg⟩
   simp only [spec_DrawIsGiftPath.j0, e1, zbb, if_pos c0, e2, if_pos (show p.length < 5864062014805 by omega)]
   exact Ev.now _
 · by_cases c1 : n = 1
   · by_cases c2 : (p.length : Int) > 0
     · obtain ⟨i, a2, s2, e2, i0, i1, d1, d2⟩ := pick_ev l hl a1 s1 (p.length : Int) (by omega) (by omega)
       obtain ⟨f, t, m, a3, s3, e3, _, _, _, _, _⟩ := gift_ev l hl a2 s2 x (by omega) (by omega) (by omega)
       refine ⟨p.set i.toNat ⟨f, t, m⟩, Ev.succ ?_, by rw [List.length_set]; omega⟩
       simp only [spec_DrawIsGiftPath.j0, e1, zbb, if_neg c0, if_pos c1, if_pos c2, e2, e3, if_pos i0, if_pos (show i < (p.length : Int) by omega)]
       exact Ev.now _
     · refine ⟨p, Ev.succ ?_, by omega⟩
       simp only [spec_DrawIsGiftPath.j0, e1, zbb, if_neg c0, if_pos c1, if_neg c2]
       exact Ev.now _
   · by_cases c2 : n = 2
     · obtain ⟨i, a2, s2, e2, i0, i1, d1, d2⟩ := pick_ev l hl a1 s1 2 (by omega) (by omega)
       have ew : wrap64 (240 + i) = 240 + i := w64 (by omega) (by omega)
       obtain ⟨q, e, hq⟩ := igpath_l0 x y (List.replicate (240 + i).toNat z39).length 0 (List.replicate (240 + i).toNat z39) (by omega) (by rw [List.length_replicate]; omega)
       refine ⟨q, Ev.succ ?_, hq⟩
       simp only [spec_DrawIsGiftPath.j0, e1, zbb, if_neg c0, if_neg c1, if_pos c2, e2, ew, if_pos (show (0 : Int) ≤ 240 + i by omega), if_pos (show (240 + i).toNat ≤ 11728124029610 by omega)]
       exact e
     · refine ⟨p, Ev.succ ?_, by omega⟩
       simp only [spec_DrawIsGiftPath.j0, e1, zbb, if_neg c0, if_neg c1, if_neg c2]
       exact Ev.now _
theorem drawIsGiftPath_ev (l : List Int) (hl : Bytes l) : ∃ (x y : List Int) (p : List S39), Ev (fun k => spec_DrawIsGiftPath.f k l) (x, y, p) ∧ Bd 12 100 x ∧ Bd 12 100 y ∧ p.length ≤ 1000 := by
 obtain ⟨x, y, a1, s1, e1, hx, hy, b1, b2⟩ := majorized_ev l hl 9 (by omega) (by omega) 0 0 (by omega) (by omega)
 have lx := hx.len
 have ly := hy.len
 have hg := giLists_ev x y (by omega) (by omega)
 by_cases hb : betB x y = true
 · obtain ⟨t, a2, s2, e2, c1, c2⟩ := one_ev l hl a1 s1 2 (by omega) (by omega)
   obtain ⟨p, e3, hp⟩ := giPath_any x y t hb
   obtain ⟨q, e4, hq⟩ := igpath_j0 l hl x y hx p hp a2 s2 (by omega) (by omega)
   refine ⟨x, y, q, ?_, hx, hy, hq⟩
   unfold spec_DrawIsGiftPath.f
   refine Ev.bind e1 (Ev.bind hg ?_)
   simp only [hb, if_true, e2, zbb]
   exact Ev.bind e3 e4
 · obtain ⟨q, e4, hq⟩ := igpath_j0 l hl x y hx [] (taac) a1 s1 (by omega) (by omega)
   refine ⟨x, y, q, ?_, hx, hy, hq⟩
   unfold spec_DrawIsGiftPath.f
   refine Ev.bind e1 (Ev.bind hg ?_)
   simp only [if_neg hb]
   exact e4
theorem dfollow_l (l : List Int) (hl : Bytes l) (y : List Int) (hy : Bd 12 100 y) : ∀ (d : Nat) (p : List S39) (a s : Int), (d : Int) ≤ 10 → p.length + d ≤ 20 → 0 ≤ a → a ≤ 600000000 - 100 * (d : Int) → ∃ q : List S39, Ev (fun k => spec_DrawFollowGifts.l0 k y p (d : Int) l a s) (y, q) ∧ q.length ≤ 1000 := by
 intro d
 have hly := hy.len
 induction d with
 | zero =>
  intro p a s h1 h2 h0 h3
  refine ⟨p, Ev.succ ?_, by omega⟩
  simp only [spec_DrawFollowGifts.l0, if_neg (show ¬ ((0 : Nat) : Int) > 0 by omega)]
  exact Ev.now _
 | succ d ih =>
  intro p a s h1 h2 h0 h3
  obtain ⟨f, t, m, a2, s2, e2, _, _, _, b1, b2⟩ := gift_ev l hl a s y (by omega) h0 (by omega)
  obtain ⟨q, e, hq⟩ := ih (p ++ [⟨f, t, m⟩]) a2 s2 (by omega) (tabg) (by omega) (by omega)
  refine ⟨q, Ev.succ ?_, hq⟩
  simp only [spec_DrawFollowGifts.l0, if_pos (show ((d + 1 : Nat) : Int) > 0 by omega), e2, zbb, if_pos (show p.length < 5864062014805 by omega), w64 (x := ((d + 1 : Nat) : Int) - 1) (by omega) (by omega)]
  rw [show ((d + 1 : Nat) : Int) - 1 = (d : Int) by omega]
  exact e
theorem dfollow_j0 (l : List Int) (hl : Bytes l) (x y : List Int) (hy : Bd 12 100 y) (c : Bool) (hc : c = true → betB x y = true) (a s : Int) (h0 : 0 ≤ a) (h1 : a ≤ 500000000) : ∃ q : List S39, Ev (fun k => spec_DrawFollowGifts.j0 k x y c l a s) (y, q) ∧ q.length ≤ 1000 := by
 cases c with
 | true =>
  obtain ⟨t, a2, s2, e2, c1, c2⟩ := one_ev l hl a s 2 h0 (by omega)
  obtain ⟨p, e3, hp⟩ := giPath_any x y t (hc rfl)
  refine ⟨p, Ev.succ ?_, by omega⟩
  simp only [spec_DrawFollowGifts.j0, if_true, e2, zbb]
  exact Ev.bind e3 (Ev.now _)
 | false =>
  obtain ⟨n, a2, s2, e2, n0, n1, c1, c2⟩ := pick_ev l hl a s 4 h0 (by omega)
  obtain ⟨d, hd⟩ := Int.eq_ofNat_of_zero_le n0
  have hd' : n = (d : Int) := hd
  obtain ⟨q, e, hq⟩ := dfollow_l l hl y hy d [] a2 s2 (by omega) (by simp; omega) (by omega) (by omega)
  refine ⟨q, Ev.succ ?_, hq⟩
  simp only [spec_DrawFollowGifts.j0, zbm, if_false, e2, zbb]
  rw [hd']
  exact e
theorem drawFollow_ev (l : List Int) (hl : Bytes l) : ∃ (y : List Int) (p : List S39), Ev (fun k => spec_DrawFollowGifts.f k l) (y, p) ∧ Bd 12 100 y ∧ p.length ≤ 1000 := by
 obtain ⟨x, y, a1, s1, e1, hx, hy, b1, b2⟩ := majorized_ev l hl 9 (by omega) (by omega) 0 0 (by omega) (by omega)
 have lx := hx.len
 have ly := hy.len
 have hg := giLists_ev x y (by omega) (by omega)
 by_cases hb : betB x y = true
 · obtain ⟨t, a2, s2, e2, c1, c2⟩ := one_ev l hl a1 s1 4 (by omega) (by omega)
   obtain ⟨q, e4, hq⟩ := dfollow_j0 l hl x y hy (!t) (fun _ => hb) a2 s2 (by omega) (by omega)
   refine ⟨y, q, ?_, hy, hq⟩
   unfold spec_DrawFollowGifts.f
   refine Ev.bind e1 (Ev.bind hg ?_)
   simp only [hb, if_true, e2, zbb]
   exact e4
 · obtain ⟨q, e4, hq⟩ := dfollow_j0 l hl x y hy false (fun h => by cases h) a1 s1 (by omega) (by omega)
   refine ⟨y, q, ?_, hy, hq⟩
   unfold spec_DrawFollowGifts.f
   refine Ev.bind e1 (Ev.bind hg ?_)
   simp only [if_neg hb]
   exact e4
theorem implUnits_l (p q : List Int) (hl : p.length = q.length) (hp : Sm p) (hq : Sm q) : ∀ (n i : Nat) (s : Int), i + n = p.length → 0 ≤ s → s ≤ 1000 * i → Ev (fun k => impl_FewestUnits.l0 k s p q (p.length : Int) (i : Int)) (s + unitL (p.drop i) (q.drop i), true)
 | 0, i, s, h, h0, h1 => by
  refine Ev.succ ?_
  simp only [impl_FewestUnits.l0, if_neg (show ¬ (i : Int) < (p.length : Int) by omega)]
  rw [unitL_end (by omega), Int.add_zero]
  exact Ev.now _
 | n + 1, i, s, h, h0, h1 => by
  have hi : i < p.length := by omega
  have hj : i < q.length := by omega
  have b1 := hp.2 _ (List.getElem_mem hi)
  have b2 := hq.2 _ (List.getElem_mem hj)
  have hm := hp.1
  refine Ev.succ ?_
  simp only [impl_FewestUnits.l0, if_pos (show (i : Int) < (p.length : Int) by omega), if_pos (show (i : Int) < (q.length : Int) by omega), if_pos (show (0 : Int) ≤ (i : Int) by omega), rdn hi, rdn hj, wsucc hi (by omega), mx_eq, w64 (x := p[i] - q[i]) (by omega) (by omega), w64 (x := s + max 0 (p[i] - q[i])) (by omega) (by omega)]
  have ih := implUnits_l p q hl hp hq n (i + 1) (s + max 0 (p[i] - q[i])) (by omega) (by omega) (by omega)
  rw [unitL_drop hi hj, ← Int.add_assoc]
  exact ih
def unitsR (a b : List Int) : Int × Bool := if betB a b = true then (unitL (descL b) (descL a), true) else (0, false)
theorem implFewestUnits_ev (a b : List Int) (ha : a.length ≤ 1048576) (hb : b.length ≤ 1048576) : Ev (fun k => impl_FewestUnits.f k a b) (unitsR a b) := by
 unfold impl_FewestUnits.f unitsR
 refine Ev.bind (isBetween_ev a b ha hb) (Ev.ite (fun h => ?_) (fun _ => Ev.now _))
 obtain ⟨ga, gb, hm⟩ := (betB_iff a b).1 h
 simp only [ranking_eq (good_sm ga), ranking_eq (good_sm gb), zbb]
 have hl := ((majB_iff a b).1 hm).1
 have := implUnits_l (descL b) (descL a) (by rw [descL_length, descL_length]; omega) (sm_desc (good_sm gb)) (sm_desc (good_sm ga)) (descL b).length 0 0 (by omega) (by omega) (by omega)
 simpa using this
theorem eqA39 (d : Nat) (w : World) (x0 y0 : Int) (x1 y1 : Int) (x2 y2 : Int) :
 (Op.equalIn (d + 2) 39 (.agg #[.int .i64 x0, .int .i64 x1, .int .i64 x2]) (.agg #[.int .i64 y0, .int .i64 y1, .int .i64 y2])).run Try.prog w = .ok (x0 == y0 && (x1 == y1 && (x2 == y2))) w := by
 refine eqA_of Try.underlying39 (by kernel_rfl) ?_
 refine eqf_cons (by rfl) (by go_simp; rfl) (by go_simp; rfl) (by go_simp) ?_
 refine eqf_cons (by rfl) (by go_simp; rfl) (by go_simp; rfl) (by go_simp) ?_
 exact eqf_last (by rfl) (by go_simp; rfl) (by go_simp; rfl) (by go_simp)
section
attribute [local go_sem high] eqA39
end







def majR (a b : List Int) : Bool × Bool := if goodL a = true then (if goodL b = true then (majB a b, true) else (false, false)) else (false, false)
theorem implIsMajorized_ev (a b : List Int) (ha : a.length ≤ 1048576) (hb : b.length ≤ 1048576) : Ev (fun k => impl_IsMajorized.f k a b) (majR a b) := by
 unfold impl_IsMajorized.f majR
 refine Ev.bind (areLists_ev a b ha hb) ?_
 by_cases ga : goodL a = true
 · by_cases gb : goodL b = true
   · simp only [ga, gb, if_true]
     exact Ev.bind (isMajorized_ev a b (good_sm ga) (good_sm gb)) (Ev.now _)
   · simp only [ga, if_true, if_neg gb]
     exact Ev.now _
 · simp only [if_neg ga, zbm, if_false]
   exact Ev.now _
theorem big_eq (a b : List Int) (ha : a.length ≤ 140737488355328) : laws_big.f a b = some (decide ((a.length : Int) > 1048576 ∨ (b.length : Int) > 1048576 - (a.length : Int))) := by
 unfold laws_big.f
 rw [w64 (x := 1048576 - (a.length : Int)) (by omega) (by omega)]
 by_cases h : (a.length : Int) > 1048576
 · simp [h]
 · simp only [if_neg h]
   congr 1
   by_cases h2 : (b.length : Int) > 1048576 - (a.length : Int)
   · rw [zba h2, zba (.inr h2)]
   · rw [zbh h2, zbh (by omega)]
theorem bytes_of {l : List Int} (h : l.length ≤ 1048576) (hx : ∀ x ∈ l, (Lit.int .u8 x).wf = true) : Bytes l := by
 refine ⟨h, fun x hm => ?_⟩
 have := hx x hm
 simp only [Lit.wf, Bool.and_eq_true, decide_eq_true_eq] at this
 exact ⟨this.1, this.2⟩
theorem pSame_l (xs ys : List Int) (hx : xs.length ≤ 9223372036854775807) (hl : xs.length = ys.length) : ∀ (n i : Nat), i + n = xs.length → Ev (fun k => laws_pSame.l0 k xs ys (xs.length : Int) (i : Int)) (decide (xs.drop i = ys.drop i))
 | 0, i, h => by
  refine Ev.succ ?_
  simp only [laws_pSame.l0, if_neg (show ¬ (i : Int) < (xs.length : Int) by omega)]
  rw [List.drop_eq_nil_of_le (by omega), List.drop_eq_nil_of_le (by omega), zba rfl]
  exact Ev.now _
 | n + 1, i, h => by
  have hi : i < xs.length := by omega
  have hj : i < ys.length := by omega
  refine Ev.succ ?_
  simp only [laws_pSame.l0, if_pos (show (i : Int) < (xs.length : Int) by omega), if_pos (show (0 : Int) ≤ (i : Int) by omega), if_pos (show (i : Int) < (ys.length : Int) by omega), rdn hi, rdn hj, wsucc hi hx]
  rw [List.drop_eq_getElem_cons hi, List.drop_eq_getElem_cons hj]
  by_cases c : xs[i] = ys[i]
  · simp only [if_pos c, c, List.cons.injEq, true_and]
    exact pSame_l xs ys hx hl n (i + 1) (by omega)
  · simp only [if_neg c, List.cons.injEq, c, false_and, decide_false]
    exact Ev.now _
theorem pSame_ev (xs ys : List Int) (hx : xs.length ≤ 9223372036854775807) : Ev (fun k => laws_pSame.f k xs ys) (decide (xs = ys)) := by
 unfold laws_pSame.f
 by_cases h : (xs.length : Int) = (ys.length : Int)
 · simp only [if_pos h]
   exact pSame_l xs ys hx (by omega) xs.length 0 (by omega)
 · simp only [if_neg h]
   rw [zbh (fun e => h (by rw [e]))]
   exact Ev.now _
theorem pSame_self (xs : List Int) (hx : xs.length ≤ 9223372036854775807) : Ev (fun k => laws_pSame.f k xs xs) true := by
 have h := pSame_ev xs xs hx
 rw [zba rfl] at h
 exact h
theorem pBelow_ev (a b : List Int) (ha : a.length ≤ 1048576) (hb : b.length ≤ 1048576) : Ev (fun k => laws_pBelow.f k a b) (betB a b) := by
 unfold laws_pBelow.f betB
 refine Ev.bind (implIsMajorized_ev a b ha hb) ?_
 unfold majR
 by_cases ga : goodL a = true
 · by_cases gb : goodL b = true
   · simp only [ga, gb, if_true]
     exact Ev.now _
   · simp only [ga, if_true, if_neg gb, zbm, if_false]
     exact Ev.now _
 · simp only [if_neg ga, zbm, if_false]
   exact Ev.now _
theorem pBelow_good {a b : List Int} (ga : goodL a = true) (gb : goodL b = true) : Ev (fun k => laws_pBelow.f k a b) (majB a b) := by
 have g1 := (goodL_iff a).1 ga
 have g2 := (goodL_iff b).1 gb
 have h := pBelow_ev a b (by omega) (by omega)
 unfold betB at h
 rw [if_pos ga, if_pos gb] at h
 exact h
theorem big_cut (l0 l1 : List Int) (g0 : l0.length * 1 ≤ 140737488351232) (x0 : ∀ x ∈ l0, (Lit.int .u8 x).wf = true) (x1 : ∀ x ∈ l1, (Lit.int .u8 x).wf = true) : laws_big.f l0 l1 = some true ∨ laws_big.f l0 l1 = some false ∧ Bytes l0 ∧ Bytes l1 := by
 rw [big_eq l0 l1 (by omega)]
 by_cases hb : (l0.length : Int) > 1048576 ∨ (l1.length : Int) > 1048576 - (l0.length : Int)
 · rw [zba hb]
   exact .inl rfl
 · rw [zbh hb]
   exact .inr ⟨rfl, bytes_of (by omega) x0, bytes_of (by omega) x1⟩
mutual
def impl_MixOf.j0 : Nat → List Int → List Int → Bool → Option (List Int × Bool)
 | 0, _, _, _ => none
 | k + 1, x0, x1, x20 => if x20 = true then (some (([] : List Int), false)) else ((impl_ranking.f x0).bind fun t647 => ((impl_ranking.f x1).bind fun t650 => (impl_MixOf.l0 k t647 t650 (t650.length : Int) 0)))
def impl_MixOf.l0 : Nat → List Int → List Int → Int → Int → Option (List Int × Bool)
 | 0, _, _, _, _ => none
 | k + 1, x6, x25, x26, x27 => if x27 < x26 then (if 0 ≤ x27 then (if x27 < (x25.length : Int) then (if x27 < (x6.length : Int) then (impl_MixOf.l0 k (x6.set (x27 : Int).toNat (wrap64 ((rd x6 x27) + (rd x25 x27)))) x25 x26 (wrap64 (x27 + 1))) else (none)) else (none)) else (none)) else ((impl_IsList.f k x6).bind fun t656 => (if t656 = true then (some (x6, true)) else (some (([] : List Int), false))))
end
def spec_liIf.f (k : Nat) (l0 : List Int) : Option (List Int × Bool) := (spec_liGood.f k l0).bind fun t544 => (if t544 = true then (some (l0, true)) else (some (([] : List Int), false)))
mutual
def spec_MixOf.j0 : Nat → List Int → List Int → Bool → Option (List Int × Bool)
 | 0, _, _, _ => none
 | k + 1, x0, x1, x24 => if x24 = true then (some (([] : List Int), false)) else ((spec_liRank.f k x0).bind fun t701 => ((spec_liRank.f k x1).bind fun t704 => (spec_MixOf.l0 k t701 t704 ([] : List Int) (t701.length : Int) 0)))
def spec_MixOf.l0 : Nat → List Int → List Int → List Int → Int → Int → Option (List Int × Bool)
 | 0, _, _, _, _, _ => none
 | k + 1, x6, x7, x8, x30, x31 => if x31 < x30 then (if 0 ≤ x31 then (if x31 < (x6.length : Int) then (if x31 < (x7.length : Int) then (if x8.length < 17592186044416 then (spec_MixOf.l0 k x6 x7 (x8 ++ [wrap64 ((rd x6 x31) + (rd x7 x31))]) x30 (wrap64 (x31 + 1))) else (none)) else (none)) else (none)) else (none)) else ((spec_liIf.f k x8).bind fun bt712 => (some (bt712.1, bt712.2)))
end


theorem ex_set (l : List Int) (i : Int) (h0 : 0 ≤ i) (h1 : i < l.length) (v t : Int) : ex (l.set i.toNat v) t = ex l t - max (rd l i - t) 0 + max (v - t) 0 := sum_map_set_rd (fun x => max (x - t) 0) l i h0 h1 v
theorem ex_give (l : List Int) (f t a : Int) (h1 : 0 ≤ f ∧ f < l.length) (h2 : 0 ≤ t ∧ t < l.length) (h3 : f ≠ t) (s : Int) : ex (giveL l f t a) s = ex l s - max (rd l f - s) 0 + max (rd l f - a - s) 0 - max (rd l t - s) 0 + max (rd l t + a - s) 0 := by
 unfold giveL
 rw [ex_set _ t h2.1 (by rw [List.length_set]; exact h2.2), ex_set _ f h1.1 h1.2, rd_set_ne _ h1.1 h2.1 h3]
theorem sum_set (l : List Int) (i : Int) (h0 : 0 ≤ i) (h1 : i < l.length) (v : Int) : (l.set i.toNat v).sum = l.sum - rd l i + v := by
 have h := sum_map_set_rd (fun x => x) l i h0 h1 v
 simpa using h
theorem give_sum (l : List Int) (f t a : Int) (h1 : 0 ≤ f ∧ f < l.length) (h2 : 0 ≤ t ∧ t < l.length) (h3 : f ≠ t) : (giveL l f t a).sum = l.sum := by
 unfold giveL
 rw [sum_set _ t h2.1 (by rw [List.length_set]; exact h2.2), sum_set _ f h1.1 h1.2, rd_set_ne _ h1.1 h2.1 h3]
 omega
theorem kind_maj {l : List Int} {f t a : Int} (hk : kindB l f t a = true) : majB (giveL l f t a) l = true := by
 obtain ⟨hG, c1, c2⟩ := (kindB_iff l f t a).1 hk
 obtain ⟨h1, h2, h3, h4⟩ := (isG_iff l f t a).1 hG
 refine (maj_ex _ _).2 ⟨giveL_length l f t a, give_sum l f t a h1 h2 h3, fun s => ?_⟩
 rw [ex_give l f t a h1 h2 h3]
 omega
theorem sqS_perm {a b : List Int} (h : a.Perm b) : sqS a = sqS b := perm_sum (h.map _)
theorem kind_fall {l : List Int} {f t a : Int} (hk : kindB l f t a = true) : 0 < 2 * a * (rd l f - rd l t - a) := by
 obtain ⟨hG, c1, c2⟩ := (kindB_iff l f t a).1 hk
 obtain ⟨h1, h2, h3, h4⟩ := (isG_iff l f t a).1 hG
 exact Int.mul_pos (by omega) (by omega)
theorem kind_not {l : List Int} {f t a : Int} (hk : kindB l f t a = true) : majB l (giveL l f t a) = false := by
 refine zbg.2 fun h => ?_
 have e := maj_antisymm h (kind_maj hk)
 obtain ⟨hG, c1, c2⟩ := (kindB_iff l f t a).1 hk
 obtain ⟨h1, h2, h3, h4⟩ := (isG_iff l f t a).1 hG
 have s := sqS_give l f t a h1 h2 h3
 have p := kind_fall hk; rw [← sqS_perm (descL_perm l), e, sqS_perm (descL_perm (giveL l f t a))] at s
 omega
theorem rd_c0 (x : Int) (l : List Int) : rd (x :: l) ((0 : Nat) : Int) = x := by simp [rd]
theorem rd_cs (x : Int) (l : List Int) (k : Nat) : rd (x :: l) ((k + 1 : Nat) : Int) = rd l (k : Int) := by
 unfold rd
 rw [show (((k + 1 : Nat) : Int)).toNat = k + 1 from by omega, show ((k : Int)).toNat = k from by omega, List.getD_cons_succ]
theorem unit_cons (x y : Int) (p q : List Int) : unitL (x :: p) (y :: q) = max 0 (x - y) + unitL p q := by simp [unitL]
theorem unit_tri : ∀ (x z t : List Int), x.length = z.length → x.length = t.length → unitL x t ≤ unitL x z + unitL z t
 | [], [], [], _, _ => by simp [unitL]
 | x :: p, y :: q, w :: r, h, h' => by
  have ih := unit_tri p q r (taay) (by simpa using h')
  rw [unit_cons, unit_cons, unit_cons]
  omega
 | [], y :: q, _, h, _ => by simp at h
 | x :: p, [], _, h, _ => by simp at h
 | [], _, w :: r, _, h => by simp at h
 | x :: p, _, [], _, h => by simp at h
theorem unit_low : ∀ (x h : List Int), x.length = h.length → (∀ k : Nat, k < x.length → rd h (k : Int) ≤ rd x (k : Int)) → unitL x h = x.sum - h.sum
 | [], [], _, _ => by simp [unitL]
 | x :: p, y :: q, e, hk => by
  have ih := unit_low p q (by simpa using e) (fun k h => by
   have := hk (k + 1) (taay)
   rw [rd_cs, rd_cs] at this
   exact this)
  have h0 := hk 0 (taac)
  rw [rd_c0, rd_c0] at h0
  rw [unit_cons, List.sum_cons, List.sum_cons, ih]
  omega
 | [], y :: q, h, _ => by simp at h
 | x :: p, [], h, _ => by simp at h
theorem unit_anti : ∀ (x z h : List Int), x.length = z.length → x.length = h.length → (∀ k : Nat, k < x.length → rd h (k : Int) ≤ rd z (k : Int)) → unitL x z ≤ unitL x h
 | [], [], [], _, _, _ => by simp [unitL]
 | x :: p, y :: q, w :: r, e, e', hk => by
  have ih := unit_anti p q r (by simpa using e) (by simpa using e') (fun k h => by
   have := hk (k + 1) (taay)
   rw [rd_cs, rd_cs] at this
   exact this)
  have h0 := hk 0 (taac)
  rw [rd_c0, rd_c0] at h0
  rw [unit_cons, unit_cons]
  omega
 | [], y :: q, _, h, _, _ => by simp at h
 | x :: p, [], _, h, _, _ => by simp at h
 | [], _, w :: r, _, h, _ => by simp at h
 | x :: p, _, [], _, h, _ => by simp at h
theorem gtN_cons (x : Int) (l : List Int) (j : Nat) : gtN (x :: l) j = gtN l j + if (j : Int) < x then 1 else 0 := by
 unfold gtN
 rw [List.countP_cons]
 by_cases h : (j : Int) < x <;> simp [h]
theorem gtN_le_of : ∀ (h g : List Int) (j : Nat), h.length = g.length → (∀ k : Nat, k < h.length → rd h (k : Int) ≤ rd g (k : Int)) → gtN h j ≤ gtN g j
 | [], [], _, _, _ => zcf _
 | x :: p, y :: q, j, e, hk => by
  have ih := gtN_le_of p q j (by simpa using e) (fun k h => by
   have := hk (k + 1) (taay)
   rw [rd_cs, rd_cs] at this
   exact this)
  have h0 := hk 0 (taac)
  rw [rd_c0, rd_c0] at h0
  rw [gtN_cons, gtN_cons]
  by_cases c : (j : Int) < x
  · rw [if_pos c, if_pos (by omega)]
    omega
  · rw [if_neg c]
    omega
 | [], y :: q, _, h, _ => by simp at h
 | x :: p, [], _, h, _ => by simp at h
theorem desc_le {h g : List Int} (e : h.length = g.length) (hn : ∀ x ∈ g, 0 ≤ x) (hk : ∀ k : Nat, k < h.length → rd h (k : Int) ≤ rd g (k : Int)) (i : Nat) (hi : i < h.length) : rd (descL h) (i : Int) ≤ rd (descL g) (i : Int) := by
 have h1 : i < (descL h).length := by rw [descL_length]; exact hi
 have h2 : i < (descL g).length := by rw [descL_length]; omega
 have b2 := hn _ (descL_mem.1 (List.getElem_mem h2))
 rw [rdn h1, rdn h2]
 rcases Int.lt_or_le (descL g)[i] (descL h)[i] with hlt | hle
 · obtain ⟨j, hj⟩ := Int.eq_ofNat_of_zero_le b2
   have hj' : (descL g)[i] = (j : Int) := hj
   have a1 := (gt_desc (descL h) (descL_desc h) i j h1).2 (by omega)
   have a2 := gtN_le_of h g j e hk
   rw [gtN_perm (descL_perm h)] at a1
   have a3 := (gt_desc (descL g) (descL_desc g) i j h2).1 (by rw [gtN_perm (descL_perm g)]; omega)
   omega
 · exact hle
theorem unit_step {x : List Int} {f t a : Int} (hx : Desc x) (hg : goodL x = true) (hk : kindB x f t a = true) (y : List Int) (hy : y.length = x.length) : unitL x y ≤ a + unitL (descL (giveL x f t a)) y := by
 obtain ⟨hG, c1, c2⟩ := (kindB_iff x f t a).1 hk
 obtain ⟨h1, h2, h3, h4⟩ := (isG_iff x f t a).1 hG
 have b1 := rd_good hg h1.1 h1.2
 have b2 := rd_good hg h2.1 h2.2
 have gg := (goodL_iff _).1 (kind_give x f t a hg hk)
 obtain ⟨i, rfl⟩ := Int.eq_ofNat_of_zero_le h1.1
 obtain ⟨j, rfl⟩ := Int.eq_ofNat_of_zero_le h2.1
 have hi : i < x.length := by have := h1.2; omega
 have hj : j < x.length := by have := h2.2; omega
 have hne : i ≠ j := fun e => h3 (by rw [e])
 obtain ⟨h, hh⟩ : ∃ h : List Int, h = x.set i (rd x (i : Int) - a) := ⟨_, rfl⟩
 have hl : h.length = x.length := by rw [hh, List.length_set]
 have hrd : ∀ k : Nat, k < x.length → rd h (k : Int) = if k = i then rd x (i : Int) - a else rd x (k : Int) := fun k hk => by
  rw [hh]
  by_cases c : k = i
  · rw [if_pos c, c]
    exact rd_set_self (i := (i : Int)) _ (by omega) (by omega)
  · rw [if_neg c]
    exact rd_set_ne (i := (i : Int)) _ (by omega) (by omega) (by omega)
 have e1 : ∀ k : Nat, k < h.length → rd h (k : Int) ≤ rd (giveL x (i : Int) (j : Int) a) (k : Int) := fun k hk => by
  rw [hl] at hk
  rw [hrd k hk, giveL_rd x i j a hi hj hne k]
  by_cases c : k = i
  · rw [if_pos c, if_neg (by omega)]
    exact Int.le_refl _
  · rw [if_neg c]
    by_cases c' : k = j
    · rw [if_pos c', c']
      omega
    · rw [if_neg c']
      exact Int.le_refl _
 have e2 : ∀ k : Nat, k < h.length → rd h (k : Int) ≤ rd x (k : Int) := fun k hk => by
  rw [hl] at hk
  rw [hrd k hk]
  by_cases c : k = i
  · rw [if_pos c, c]
    omega
  · rw [if_neg c]
    exact Int.le_refl _
 have l1 : (giveL x (i : Int) (j : Int) a).length = x.length := giveL_length _ _ _ _
 have s1 : h.sum = x.sum - a := by
  have := sum_set x (i : Int) (by omega) (by omega) (rd x (i : Int) - a)
  rw [hh]
  simp only [Int.toNat_natCast] at this
  omega
 have d1 : ∀ k : Nat, k < x.length → rd (descL h) (k : Int) ≤ rd (descL (giveL x (i : Int) (j : Int) a)) (k : Int) := fun k hk => desc_le (by rw [hl, l1]) (fun z hz => (gg.2.2 z hz).1) e1 k (by omega)
 have d2 : ∀ k : Nat, k < x.length → rd (descL h) (k : Int) ≤ rd x (k : Int) := fun k hk => by
  have := desc_le (g := x) hl (fun z hz => (((goodL_iff x).1 hg).2.2 z hz).1) e2 k (by omega)
  rw [descL_of_desc hx] at this
  exact this
 have t1 := unit_tri x (descL (giveL x (i : Int) (j : Int) a)) y (by rw [descL_length, l1]) hy.symm
 have t2 := unit_anti x (descL (giveL x (i : Int) (j : Int) a)) (descL h) (by rw [descL_length, l1]) (by rw [descL_length, hl]) d1
 have t3 := unit_low x (descL h) (by rw [descL_length, hl]) d2
 rw [descL_sum, s1] at t3
 show unitL x y ≤ a + unitL (descL (giveL x (i : Int) (j : Int) a)) y
 omega

theorem foll_cons (x : List Int) (g : S39) (p : List S39) : foll x (g :: p) = if kindB x g.f0 g.f1 g.f2 = true then (foll (stepG x g) p).map (stepG x g :: ·) else none := rfl
theorem stepG_length (x : List Int) (g : S39) : (stepG x g).length = x.length := by
 unfold stepG
 rw [descL_length, giveL_length]
theorem isG_len {x y : List Int} (h : x.length = y.length) (f t a : Int) : isG x f t a = isG y f t a := by
 unfold isG
 rw [h]
theorem foll_isG : ∀ (p : List S39) (x : List Int) (M : List (List Int)), foll x p = some M → ∀ g ∈ p, isG x g.f0 g.f1 g.f2 = true
 | [], _, _, _, g, hg => by simp at hg
 | g :: p, x, M, h, q, hq => by
  rw [foll_cons] at h
  by_cases c : kindB x g.f0 g.f1 g.f2 = true
  · rw [if_pos c] at h
    obtain ⟨N, h1, _⟩ := Option.map_eq_some_iff.1 h
    rcases List.mem_cons.1 hq with rfl | hq
    · exact ((kindB_iff _ _ _ _).1 c).1
    · rw [isG_len (stepG_length x g).symm]
      exact foll_isG p (stepG x g) N h1 q hq
  · rw [if_neg c] at h
    cases h
theorem lastR_cons (x y : List Int) (M : List (List Int)) : lastR (x :: y :: M) = lastR (y :: M) := by
 unfold lastR
 simp
theorem giGifts_ev (b : List Int) (hb : b.length ≤ 1048576) (p : List S39) (hp : p.length ≤ 1048576) : Ev (fun k => spec_giGifts.f k b p) (p.all (fun g => isG b g.f0 g.f1 g.f2) && decide ((p.length : Int) ≤ 240)) := by
 unfold spec_giGifts.f
 have key : ∀ (d i : Nat), i + d = p.length → Ev (fun k => spec_giGifts.l0 k b p p (p.length : Int) (i : Int)) ((p.drop i).all (fun g => isG b g.f0 g.f1 g.f2) && decide ((p.length : Int) ≤ 240)) := by
  intro d
  induction d with
  | zero =>
   intro i h
   refine Ev.succ ?_
   simp only [spec_giGifts.l0, if_neg (show ¬ (i : Int) < (p.length : Int) by omega)]
   rw [List.drop_eq_nil_of_le (by omega)]
   exact Ev.now _
  | succ d ih =>
   intro i h
   have hi : i < p.length := by omega
   have hr : rd_T39 p (i : Int) = p[i] := by
    unfold rd_T39
    rw [Int.toNat_natCast, List.getD_eq_getElem?_getD, List.getElem?_eq_getElem hi]
    rfl
   refine Ev.succ ?_
   simp only [spec_giGifts.l0, if_pos (show (i : Int) < (p.length : Int) by omega), if_pos (show (0 : Int) ≤ (i : Int) by omega), hr, giIs_eq b _ _ _ hb, zbb, wsucc hi (by omega)]
   rw [List.drop_eq_getElem_cons hi, List.all_cons]
   cases hq : isG b p[i].f0 p[i].f1 p[i].f2 with
   | true =>
    simp only [if_true, Bool.true_and]
    exact ih (i + 1) (by omega)
   | false =>
    simp only [zbm, if_false, Bool.false_and]
    exact Ev.now _
 exact key p.length 0 (by omega)
theorem rd_last (L : List (List Int)) (h : 0 < L.length) (h2 : L.length ≤ 1048577) : wrap64 ((L.length : Int) - 1) = ((L.length - 1 : Nat) : Int) ∧ rd_L2 L ((L.length - 1 : Nat) : Int) = lastR L := by
 refine ⟨by rw [w64 (by omega) (by omega)]; omega, ?_⟩
 unfold lastR rd_L2
 rw [Int.toNat_natCast]
theorem igp_eq (a b : List Int) (p : List S39) (ha : a.length ≤ 1048576) (hb : b.length ≤ 1048576) (hp : p.length ≤ 1048576) : impl_IsGiftPath.f a b p = some (igpR a b p) := by
 unfold impl_IsGiftPath.f
 rw [if_pos ⟨ha, hb, hp⟩]
theorem any_not_all (b : List Int) (p : List S39) : (p.any fun g => !isG b g.f0 g.f1 g.f2) = !(p.all fun g => isG b g.f0 g.f1 g.f2) := by
 rw [List.not_all_eq_any_not]
theorem igp_j0 (a b : List Int) (p : List S39) (ga : goodL a = true) (gb : goodL b = true) (hp : p.length ≤ 1048576) : Ev (fun k => spec_IsGiftPath.j0 k a b p false) (igpM a b p) := by
 have g1 := (goodL_iff a).1 ga
 refine Ev.succ ?_
 have hf : spec_giFollow.f b p = some (folA [descL b] (foll (descL b) p) true) := by
  unfold spec_giFollow.f
  rw [if_pos ⟨gb, hp⟩]
 simp only [spec_IsGiftPath.j0, zbm, if_false, hf, zbb]
 unfold igpM
 cases hm : foll (descL b) p with
 | none =>
  simp only [folA, zbm, if_false]
  exact Ev.now _
 | some M =>
  have hl := folM_len hm; obtain ⟨e1, e2⟩ := rd_last (descL b :: M) (taac) (by rw [List.length_cons]; omega)
  simp only [folA, List.singleton_append, if_true, e1, e2, if_pos (show (0 : Int) ≤ (((descL b :: M).length - 1 : Nat) : Int) by omega), if_pos (show (((descL b :: M).length - 1 : Nat) : Int) < ((descL b :: M).length : Int) by rw [List.length_cons]; omega)]
  refine Ev.bind (liRank_ev a (by omega)) ?_
  have hlen : (lastR (descL b :: M)).length ≤ 9223372036854775807 ∨ ¬ (lastR (descL b :: M)).length = (descL a).length := by
   by_cases c : (lastR (descL b :: M)).length ≤ 9223372036854775807
   · exact .inl c
   · exact .inr (by rw [descL_length]; omega)
  rcases hlen with c | c
  · exact Ev.bind (l1Same_ev _ _ c) (Ev.now _)
  · have e : Ev (fun k => spec_l1Same.f k (lastR (descL b :: M)) (descL a)) (decide (lastR (descL b :: M) = descL a)) := by
     unfold spec_l1Same.f
     simp only [if_neg (show ¬ ((lastR (descL b :: M)).length : Int) = ((descL a).length : Int) by omega)]
     rw [zbh (fun q => c (by rw [q]))]
     exact Ev.now _
    exact Ev.bind e (Ev.now _)
theorem igp_j0' (a b : List Int) (p : List S39) : Ev (fun k => spec_IsGiftPath.j0 k a b p true) (false, false) := by
 refine Ev.succ ?_
 simp only [spec_IsGiftPath.j0, if_true]
 exact Ev.now _
theorem specIsGiftPath_ev (a b : List Int) (p : List S39) (ha : a.length ≤ 1048576) (hb : b.length ≤ 1048576) (hp : p.length ≤ 1048576) : Ev (fun k => spec_IsGiftPath.f k a b p) (igpR a b p) := by
 unfold spec_IsGiftPath.f igpR
 refine Ev.bind (liGood_ev a (by omega)) ?_
 by_cases ga : goodL a = true
 · simp only [ga, if_true]
   refine Ev.bind (liGood_ev b (by omega)) ?_
   by_cases gb : goodL b = true
   · simp only [gb, if_true]
     refine Ev.bind (liFit_ev a b (good_sm ga) (good_sm gb)) ?_
     by_cases hf : fitB a b = true
     · simp only [hf, if_true]
       refine Ev.bind (giGifts_ev b hb p hp) ?_
       rw [any_not_all]
       by_cases n : (p.length : Int) > 240
       · rw [if_pos n, zbh (show ¬ (p.length : Int) ≤ 240 by omega), Bool.and_false]
         simp only [Bool.not_false]
         exact igp_j0' a b p
       · rw [if_neg n, zba (show (p.length : Int) ≤ 240 by omega), Bool.and_true]
         cases hc : (p.all fun g => isG b g.f0 g.f1 g.f2) with
         | true =>
          simp only [Bool.not_true, zbm, if_false]
          exact igp_j0 a b p ga gb hp
         | false =>
          simp only [Bool.not_false, if_true]
          exact igp_j0' a b p
     · simp only [if_neg hf]
       exact igp_j0' a b p
   · simp only [if_neg gb, zbm, if_false]
     exact igp_j0' a b p
 · simp only [if_neg ga, zbm, if_false]
   exact igp_j0' a b p
def followR (b : List Int) (p : List S39) : List (List Int) × Bool := if goodL b = true then (if (p.length : Int) ≤ 240 then folA [descL b] (foll (descL b) p) true else ([], false)) else ([], false)
theorem folA_false (L : List (List Int)) (o : Option (List (List Int))) : (folA L o false).2 = false := by
 cases o <;> rfl
theorem implFollowGifts_ev (b : List Int) (p : List S39) (hb : b.length ≤ 1048576) (hp : p.length ≤ 1048576) : Ev (fun k => impl_FollowGifts.f k b p) (followR b p) := by
 unfold impl_FollowGifts.f followR
 refine Ev.bind (implIsList_ev b (by omega)) ?_
 by_cases gb : goodL b = true
 · have hf : impl_follow.f b p = some (folA [descL b] (foll (descL b) p) (decide ((p.length : Int) ≤ 240))) := by
    unfold impl_follow.f
    rw [if_pos ⟨gb, hp⟩]
   simp only [gb, if_true, hf, zbb]
   by_cases n : (p.length : Int) ≤ 240
   · rw [if_pos n, zba n]
     cases foll (descL b) p with
     | none =>
      simp only [folA, zbm, if_false]
      exact Ev.now _
     | some M =>
      simp only [folA, if_true]
      exact Ev.now _
   · rw [if_neg n, zbh n, folA_false]
     simp only [zbm, if_false]
     exact Ev.now _
 · simp only [if_neg gb]
   exact Ev.now _
theorem specFollowGifts_ev (b : List Int) (p : List S39) (hb : b.length ≤ 1048576) (hp : p.length ≤ 1048576) : Ev (fun k => spec_FollowGifts.f k b p) (followR b p) := by
 unfold spec_FollowGifts.f followR
 refine Ev.bind (liGood_ev b (by omega)) ?_
 by_cases gb : goodL b = true
 · have hf : spec_giFollow.f b p = some (folA [descL b] (foll (descL b) p) true) := by
    unfold spec_giFollow.f
    rw [if_pos ⟨gb, hp⟩]
   simp only [gb, if_true]
   refine Ev.bind (giGifts_ev b hb p hp) ?_
   by_cases n : (p.length : Int) ≤ 240
   · rw [if_pos n, zba n, Bool.and_true]
     cases hc : (p.all fun g => isG b g.f0 g.f1 g.f2) with
     | true =>
      simp only [if_true, hf, zbb]
      exact Ev.now _
     | false =>
      have hn : foll (descL b) p = none := by
       cases hm : foll (descL b) p with
       | none => rfl
       | some M =>
        have := foll_isG p (descL b) M hm
        rw [List.all_eq_false] at hc
        obtain ⟨g, hg1, hg2⟩ := hc
        have h3 := this g hg1
        rw [isG_len (descL_length b)] at h3
        exact absurd h3 hg2
      rw [hn]
      simp only [zbm, if_false, folA]
      exact Ev.now _
   · rw [if_neg n, zbh n, Bool.and_false]
     simp only [zbm, if_false]
     exact Ev.now _
 · simp only [if_neg gb]
   exact Ev.now _
theorem pSameRows_self (L : List (List Int)) (hL : L.length ≤ 9223372036854775807) (hr : ∀ x ∈ L, x.length ≤ 9223372036854775807) : Ev (fun k => laws_pSameRows.f k L L) true := by
 unfold laws_pSameRows.f
 simp only [if_true]
 have key : ∀ (d i : Nat), i + d = L.length → Ev (fun k => laws_pSameRows.l0 k L L (L.length : Int) (i : Int)) true := by
  intro d
  induction d with
  | zero =>
   intro i h
   refine Ev.succ ?_
   simp only [laws_pSameRows.l0, if_neg (show ¬ (i : Int) < (L.length : Int) by omega)]
   exact Ev.now _
  | succ d ih =>
   intro i h
   have hi : i < L.length := by omega
   have hm : rd_L2 L (i : Int) ∈ L := by
    unfold rd_L2
    rw [Int.toNat_natCast, List.getD_eq_getElem?_getD, List.getElem?_eq_getElem hi]
    exact List.getElem_mem hi
   refine Ev.succ ?_
   simp only [laws_pSameRows.l0, if_pos (show (i : Int) < (L.length : Int) by omega), if_pos (show (0 : Int) ≤ (i : Int) by omega), wsucc hi (by omega)]
   refine Ev.bind (pSame_self _ (hr _ hm)) ?_
   simp only [if_true]
   exact ih (i + 1) (by omega)
 exact key L.length 0 (by omega)
def sumA (p : List S39) : Int := (p.map fun g => g.f2).sum
def Fall : List Int → List (List Int) → Prop
 | _, [] => True
 | x, y :: M => goodL x = true ∧ goodL y = true ∧ majB y x = true ∧ majB x y = false ∧ Fall y M
theorem foll_some {x : List Int} {g : S39} {p : List S39} {M : List (List Int)} (h : foll x (g :: p) = some M) : kindB x g.f0 g.f1 g.f2 = true ∧ ∃ N, foll (stepG x g) p = some N ∧ M = stepG x g :: N := by
 rw [foll_cons] at h
 by_cases c : kindB x g.f0 g.f1 g.f2 = true
 · rw [if_pos c] at h
   obtain ⟨N, h1, h2⟩ := Option.map_eq_some_iff.1 h
   exact ⟨c, N, h1, h2.symm⟩
 · rw [if_neg c] at h
   cases h
theorem step_good {x : List Int} {g : S39} (hx : goodL x = true) (hk : kindB x g.f0 g.f1 g.f2 = true) : goodL (stepG x g) = true := by
 unfold stepG
 rw [good_desc]
 exact kind_give x _ _ _ hx hk
theorem foll_fall : ∀ (p : List S39) (x : List Int) (M : List (List Int)), goodL x = true → foll x p = some M → Fall x M
 | [], x, M, _, h => by
  have e : M = [] := by
   have : foll x [] = some [] := rfl
   rw [this] at h
   exact (zbc h).symm
  rw [e]
  trivial
 | g :: p, x, M, hx, h => by
  obtain ⟨hk, N, h1, rfl⟩ := foll_some h
  have hg := step_good hx hk
  refine ⟨hx, hg, ?_, ?_, foll_fall p _ N hg h1⟩
  · unfold stepG
    rw [maj_desc_l]
    exact kind_maj hk
  · unfold stepG
    rw [maj_desc_r]
    exact kind_not hk
theorem fall_at : ∀ (M : List (List Int)) (x : List Int), Fall x M → ∀ i : Nat, i < M.length → goodL ((x :: M).getD i []) = true ∧ goodL ((x :: M).getD (i + 1) []) = true ∧ majB ((x :: M).getD (i + 1) []) ((x :: M).getD i []) = true ∧ majB ((x :: M).getD i []) ((x :: M).getD (i + 1) []) = false
 | [], _, _, i, h => by simp at h
 | y :: M, x, ⟨h1, h2, h3, h4, h5⟩, 0, _ => ⟨h1, h2, h3, h4⟩
 | y :: M, x, ⟨h1, h2, h3, h4, h5⟩, i + 1, h => fall_at M y h5 i (taay)
theorem foll_units (y : List Int) : ∀ (p : List S39) (x : List Int) (M : List (List Int)), goodL x = true → Desc x → y.length = x.length → foll x p = some M → unitL x y ≤ sumA p + unitL (lastR (x :: M)) y ∧ majB (lastR (x :: M)) x = true
 | [], x, M, _, _, _, h => by
  have e : M = [] := by
   have : foll x [] = some [] := rfl
   rw [this] at h
   exact (zbc h).symm
  rw [e]
  have : lastR [x] = x := rfl
  rw [this]
  refine ⟨?_, maj_refl x⟩
  simp [sumA]
 | g :: p, x, M, hx, hd, hl, h => by
  obtain ⟨hk, N, h1, rfl⟩ := foll_some h
  obtain ⟨h2, h3⟩ := foll_units y p (stepG x g) N (step_good hx hk) (by unfold stepG; exact descL_desc _) (by rw [stepG_length]; exact hl) h1
  rw [lastR_cons]
  have k := unit_step hd hx hk y hl
  have e : sumA (g :: p) = g.f2 + sumA p := rfl
  refine ⟨?_, maj_trans h3 ?_⟩
  · rw [e]
    have : unitL x y ≤ g.f2 + unitL (stepG x g) y := k
    omega
  · unfold stepG
    rw [maj_desc_l]
    exact kind_maj hk
theorem foll_bd : ∀ (p : List S39) (x : List Int) (M : List (List Int)), foll x p = some M → ∀ g ∈ p, 1 ≤ g.f2 ∧ g.f2 ≤ 60
 | [], _, _, _, g, hg => by simp at hg
 | g :: p, x, M, h, q, hq => by
  obtain ⟨hk, N, h1, rfl⟩ := foll_some h
  rcases List.mem_cons.1 hq with rfl | hq
  · have := (kindB_iff _ _ _ _).1 hk
    exact ⟨((isG_iff _ _ _ _).1 this.1).2.2.2, this.2.1⟩
  · exact foll_bd p _ N h1 q hq
end Go.Proofs.Ytnlimjejllakoaa.A
/- The law FnAcceptedGiftPaths holds of the printed functions, for every argument: numbers and lists alone. -/
namespace Go.Proofs.Ytnlimjejllakoaa.Pure
open Go.RowKit Go.Proofs.Ytnlimjejllakoaa.A Go.Proofs.YtnlimjejllakoaaW.PrintWords Go.Proofs.YtnlimjejllakoaaW.PrintLast
set_option linter.unusedVariables false
set_option linter.unusedSimpArgs false
theorem acc_sum (a b : List Int) (U : Int) (p : List S39) (hp : p.length ≤ 1000) (ha : Ev (fun k => laws_pBelow.f k a b) true) (h1 : ∀ g ∈ p, 1 ≤ g.f2 ∧ g.f2 ≤ 60) (hU : U ≤ sumA p) : ∀ (d i : Nat) (s : Int), i + d = p.length → 0 ≤ s → s ≤ 60 * (i : Int) → s + sumA (p.drop i) = sumA p → Ev (fun k => laws_FnAcceptedGiftPaths.l1 k a b U true s p (p.length : Int) (i : Int)) true := by
 intro d
 induction d with
 | zero =>
  intro i s h h0 h60 hs
  refine Ev.succ ?_
  simp only [laws_FnAcceptedGiftPaths.l1, if_neg (show ¬ (i : Int) < (p.length : Int) by omega)]
  rw [List.drop_eq_nil_of_le (by omega)] at hs
  have e : s = sumA p := by
   have : sumA ([] : List S39) = 0 := rfl
   omega
  simp only [if_true]
  refine Ev.bind ha ?_
  simp only [if_true]
  rw [zba (show s ≥ U by omega)]
  exact Ev.now _
 | succ d ih =>
  intro i s h h0 h60 hs
  have hi : i < p.length := by omega
  have hr : rd_T39 p (i : Int) = p[i] := by
   unfold rd_T39
   rw [Int.toNat_natCast, List.getD_eq_getElem?_getD, List.getElem?_eq_getElem hi]
   rfl
  have g1 := h1 _ (List.getElem_mem hi)
  rw [List.drop_eq_getElem_cons hi] at hs
  have hs' : s + (p[i].f2 + sumA (p.drop (i + 1))) = sumA p := hs
  refine Ev.succ ?_
  simp only [laws_FnAcceptedGiftPaths.l1, if_pos (show (i : Int) < (p.length : Int) by omega), if_pos (show (0 : Int) ≤ (i : Int) by omega), hr, w64 (x := s + p[i].f2) (by omega) (by omega), wsucc hi (by omega)]
  exact ih (i + 1) _ (by omega) (by omega) (by omega) (by omega)
theorem acc_end (a b : List Int) (p : List S39) (la : a.length ≤ 1000) (lb : b.length ≤ 1000) (lp : p.length ≤ 1000) (ok : Bool) (hok : ok = (igpR a b p).1) (rows : List (List Int)) (i : Int) (hi : ¬ i < (rows.length : Int)) : Ev (fun k => laws_FnAcceptedGiftPaths.l0 k a b p ok rows i) true := by
 refine Ev.succ ?_
 simp only [laws_FnAcceptedGiftPaths.l0, if_neg hi]
 cases ok with
 | false =>
  simp only [zbm, if_false]
  exact Ev.now _
 | true =>
  simp only [if_true]
  unfold igpR at hok
  by_cases hg : (if goodL a = true then goodL b else false) = true
  · have ga : goodL a = true := by
     by_cases ga : goodL a = true
     · exact ga
     · rw [if_neg ga] at hg
       cases hg
    rw [if_pos ga] at hg
    rw [if_pos ga, if_pos hg] at hok
    by_cases hf : fitB a b = true
    · rw [if_pos hf] at hok
      by_cases hn : (p.length : Int) > 240
      · rw [if_pos hn] at hok
        cases hok
      · rw [if_neg hn] at hok
        by_cases ha : (p.any fun g => !isG b g.f0 g.f1 g.f2) = true
        · rw [if_pos ha] at hok
          cases hok
        · rw [if_neg ha] at hok
          unfold igpM at hok
          cases hm : foll (descL b) p with
          | none =>
           rw [hm] at hok
           cases hok
          | some M =>
           rw [hm] at hok
           have hlast : lastR (descL b :: M) = descL a := zas hok.symm
           have fl := (fitB_iff a b).1 hf
           have gb' : goodL (descL b) = true := by rw [good_desc]; exact hg
           obtain ⟨u1, u2⟩ := foll_units (descL a) p (descL b) M gb' (descL_desc b) (by rw [descL_length, descL_length]; omega) hm
           rw [hlast] at u1 u2
           have hm : majB a b = true := by
            rw [maj_desc_l, maj_desc_r] at u2
            exact u2
           have hbd := foll_bd p (descL b) M (by assumption)
           have z : unitL (descL a) (descL a) = 0 := by
            have := unit_low (descL a) (descL a) rfl (fun _ _ => Int.le_refl _)
            omega
           have hU : unitsR a b = (unitL (descL b) (descL a), true) := by
            unfold unitsR
            rw [if_pos ((betB_iff a b).2 ⟨ga, hg, hm⟩)]
           refine Ev.bind (implFewestUnits_ev a b (by omega) (by omega)) ?_
           rw [hU]
           have hb := pBelow_good ga hg
           rw [hm] at hb
           exact acc_sum a b _ p lp hb hbd (by omega) p.length 0 0 (by omega) (by omega) (by omega) (by rw [List.drop_zero]; omega)
    · rw [if_neg hf] at hok
      cases hok
  · rw [if_neg hg] at hok
    cases hok
theorem acc_rows (a b : List Int) (p : List S39) (la : a.length ≤ 1000) (lb : b.length ≤ 1000) (lp : p.length ≤ 1000) (ok : Bool) (hok : ok = (igpR a b p).1) (x : List Int) (M : List (List Int)) (hF : Fall x M) (hM : M.length ≤ 1000) : ∀ (d i : Nat), i + d = M.length + 1 → 1 ≤ i → Ev (fun k => laws_FnAcceptedGiftPaths.l0 k a b p ok (x :: M) (i : Int)) true := by
 have hlen : (x :: M).length = M.length + 1 := rfl
 intro d
 induction d with
 | zero =>
  intro i h h1
  exact acc_end a b p la lb lp ok hok _ _ (by rw [hlen]; omega)
 | succ d ih =>
  intro i h h1
  obtain ⟨j, rfl⟩ : ∃ j, i = j + 1 := ⟨i - 1, by omega⟩
  obtain ⟨f1, f2, f3, f4⟩ := fall_at M x hF j (by omega)
  have e1 : wrap64 (((j + 1 : Nat) : Int) - 1) = (j : Int) := by rw [w64 (by omega) (by omega)]; omega
  have r1 : rd_L2 (x :: M) ((j + 1 : Nat) : Int) = (x :: M).getD (j + 1) [] := rfl
  have r2 : rd_L2 (x :: M) (j : Int) = (x :: M).getD j [] := rfl
  refine Ev.succ ?_
  simp only [laws_FnAcceptedGiftPaths.l0, hlen, e1, if_pos (show ((j + 1 : Nat) : Int) < ((M.length + 1 : Nat) : Int) by omega), if_pos (show (0 : Int) ≤ ((j + 1 : Nat) : Int) by omega), if_pos (show (0 : Int) ≤ (j : Int) by omega), if_pos (show (j : Int) < ((M.length + 1 : Nat) : Int) by omega), r1, r2]
  refine Ev.bind (pBelow_good f2 f1) ?_
  rw [f3]
  simp only [if_true]
  refine Ev.bind (pBelow_good f1 f2) ?_
  rw [f4]
  simp only [zbm, if_false]
  rw [show wrap64 (((j + 1 : Nat) : Int) + 1) = ((j + 1 + 1 : Nat) : Int) by rw [w64 (by omega) (by omega)]; omega]
  exact ih (j + 1 + 1) (by omega) (by omega)
theorem follow_rows (y : List Int) (p : List S39) (hp : p.length ≤ 1000) (ly : y.length ≤ 1000) : (followR y p).1 = [] ∨ ∃ M, (followR y p).1 = descL y :: M ∧ Fall (descL y) M ∧ M.length = p.length := by
 unfold followR
 by_cases gy : goodL y = true
 · rw [if_pos gy]
   by_cases n : (p.length : Int) ≤ 240
   · rw [if_pos n]
     cases hm : foll (descL y) p with
     | none => exact .inl rfl
     | some M => exact .inr ⟨M, rfl, foll_fall p _ M (by rw [good_desc]; exact gy) hm, folM_len hm⟩
   · rw [if_neg n]
     exact .inl rfl
 · rw [if_neg gy]
   exact .inl rfl
theorem foll_lens : ∀ (M : List (List Int)) (x : List Int), Fall x M → x.length ≤ 1000 → ∀ r ∈ x :: M, r.length ≤ 1000
 | [], x, _, hx, r, hr => by
  rw [List.mem_singleton] at hr
  rw [hr]
  exact hx
 | y :: M, x, ⟨h1, h2, h3, h4, h5⟩, hx, r, hr => by
  rcases List.mem_cons.1 hr with rfl | hr
  · exact hx
  · have := (goodL_iff y).1 h2
    exact foll_lens M y h5 (by omega) r hr
theorem FnAcceptedGiftPaths : laws_FnAcceptedGiftPaths.Pure := by
 intro l0 l1 _ g0 x0 _ g1 x1
 apply Ev.get
 unfold laws_FnAcceptedGiftPaths.f
 rcases big_cut l0 l1 g0 x0 x1 with hb | ⟨hb, b0, b1⟩
 · simp only [hb, zbb, if_true]
   exact Ev.now _
 · simp only [hb, zbb, zbm, if_false]
   obtain ⟨a, b, p, e, ha, hb, hp⟩ := drawIsGiftPath_ev l0 b0
   have la := ha.len
   have lb := hb.len
   refine Ev.bind e ?_
   simp only [igp_eq a b p (by omega) (by omega) (by omega), zbb]
   refine Ev.bind (specIsGiftPath_ev a b p (by omega) (by omega) (by omega)) ?_
   simp only [bne_self_eq_false, zbm, if_false]
   refine Ev.succ ?_
   simp only [laws_FnAcceptedGiftPaths.j0, zbm, if_false]
   obtain ⟨y, q, e2, hy, hq⟩ := drawFollow_ev l1 b1
   have ly := hy.len
   refine Ev.bind e2 (Ev.bind (implFollowGifts_ev y q (by omega) (by omega)) (Ev.bind (specFollowGifts_ev y q (by omega) (by omega)) ?_))
   simp only [bne_self_eq_false, zbm, if_false]
   rcases follow_rows y q hq (by omega) with h | ⟨M, h, hF, hM⟩
   · rw [h]
     refine Ev.bind (pSameRows_self [] (by simp) (by simp)) ?_
     simp only [Bool.not_true]
     refine Ev.succ ?_
     simp only [laws_FnAcceptedGiftPaths.j1, zbm, if_false]
     exact acc_end a b p (by omega) (by omega) hp _ rfl [] 1 (by simp)
   · rw [h]
     have hl := foll_lens M (descL y) hF (by rw [descL_length]; omega)
     refine Ev.bind (pSameRows_self _ (by rw [List.length_cons]; omega) (fun r hr => by have := hl r hr; omega)) ?_
     simp only [Bool.not_true]
     refine Ev.succ ?_
     simp only [laws_FnAcceptedGiftPaths.j1, zbm, if_false]
     exact acc_rows a b p (by omega) (by omega) hp _ rfl (descL y) M hF (by omega) M.length 1 (by omega) (by omega)
end Go.Proofs.Ytnlimjejllakoaa.Pure

