/- What the law FnGiftPathsExist reaches, part 5: Lean functions with the same answers as the Go functions, the proofs that the Go code comes to these answers, and lemmas about them; no condition beyond those that each theorem names. -/
import Derived.Test.YtnlimjejllakoaaCFnGiftPathsExistw1
import Derived.Lib.VarintBits
import Derived.Lib.Zigzag
import Derived.Test.YtnlimjejllakoaaCFnGiftPathsExist1
import Derived.Test.YtnlimjejllakoaaCFnGiftPathsExist2
import Derived.Test.YtnlimjejllakoaaCFnGiftPathsExist3
import Derived.Test.YtnlimjejllakoaaCFnGiftPathsExist4
set_option linter.unusedVariables false
set_option linter.unusedSimpArgs false
set_option maxHeartbeats 8000000
set_option maxRecDepth 100000
namespace Go.Proofs.Ytnlimjejllakoaa.A
open Go.RowKit Go.Proofs.YtnlimjejllakoaaW.PrintWords Go.Proofs.YtnlimjejllakoaaW.PrintLast Go.Proofs.YtnlimjejllakoaaW.PrintMore
attribute [local go_sem] max2_int min2_int max_two min_two max_three min_three max_four min_four
mutual
def laws_FnGiftPathsExist.j0 : Nat → List Int → List Int → List (S39) → Bool → Bool → Option (Bool)
 | 0, _, _, _, _, _ => none
 | k + 1, x5, x6, x7, x10, x60 => if x60 = true then (some false) else (if x10 = true then ((impl_FewestUnits.f k x5 x6).bind fun bt1473 => ((impl_IsGiftPath.f x5 x6 x7).bind fun bt1475 => ((impl_FollowGifts.f k x6 x7).bind fun bt1477 => (if bt1473.2 = true then (if bt1475.2 = true then (if bt1477.2 = true then (if bt1475.1 = true then (if bt1473.1 = (x7.length : Int) then (laws_FnGiftPathsExist.j1 k x5 x6 x7 bt1477.1 ((bt1477.1.length : Int) != (wrap64 ((x7.length : Int) + 1)))) else (laws_FnGiftPathsExist.j1 k x5 x6 x7 bt1477.1 true)) else (laws_FnGiftPathsExist.j1 k x5 x6 x7 bt1477.1 true)) else (laws_FnGiftPathsExist.j1 k x5 x6 x7 bt1477.1 true)) else (laws_FnGiftPathsExist.j1 k x5 x6 x7 bt1477.1 true)) else (laws_FnGiftPathsExist.j1 k x5 x6 x7 bt1477.1 true))))) else (some true))
def laws_FnGiftPathsExist.j1 : Nat → List Int → List Int → List (S39) → List (List Int) → Bool → Option (Bool)
 | 0, _, _, _, _, _ => none
 | k + 1, x5, x6, x7, x15, x109 => if x109 = true then (some false) else (laws_FnGiftPathsExist.l0 k x5 x6 x7 x15 x15 (x15.length : Int) 0)
def laws_FnGiftPathsExist.l0 : Nat → List Int → List Int → List (S39) → List (List Int) → List (List Int) → Int → Int → Option (Bool)
 | 0, _, _, _, _, _, _, _ => none
 | k + 1, x5, x6, x7, x15, x110, x111, x112 => if x112 < x111 then (if 0 ≤ x112 then (if x112 < (x110.length : Int) then ((laws_pBelow.f k x5 (rd_L2 x110 x112)).bind fun t1496 => (if t1496 = true then ((laws_pBelow.f k (rd_L2 x110 x112) x6).bind fun t1497 => (if t1497 = true then (if x112 = 0 then (laws_FnGiftPathsExist.l0 k x5 x6 x7 x15 x110 x111 (wrap64 (x112 + 1))) else (if 0 ≤ (wrap64 (x112 - 1)) then (if (wrap64 (x112 - 1)) < (x15.length : Int) then ((impl_SquareSum.f k (rd_L2 x15 (wrap64 (x112 - 1)))).bind fun bt1499 => ((impl_SquareSum.f k (rd_L2 x110 x112)).bind fun bt1501 => (if (wrap64 (x112 - 1)) < (x7.length : Int) then ((impl_SquaresFall.f k (rd_L2 x15 (wrap64 (x112 - 1))) ((rd_T39 x7 (wrap64 (x112 - 1))).f0) ((rd_T39 x7 (wrap64 (x112 - 1))).f1) ((rd_T39 x7 (wrap64 (x112 - 1))).f2)).bind fun bt1505 => (if bt1499.2 = true then (if bt1501.2 = true then (if bt1505.2 = true then (if bt1505.1 ≤ 0 then (some false) else (if (wrap64 (bt1499.1 - bt1501.1)) = bt1505.1 then (laws_FnGiftPathsExist.l0 k x5 x6 x7 x15 x110 x111 (wrap64 (x112 + 1))) else (some false))) else (some false)) else (some false)) else (some false))) else (none)))) else (none)) else (none))) else (some false))) else (some false))) else (none)) else (none)) else (some true)
end
def laws_FnGiftPathsExist.f (k : Nat) (l0 : List Int) (l1 : List Int) : Option (Bool) := (laws_big.f l0 l1).bind fun t1456 => (if t1456 = true then (some true) else ((spec_DrawGiftPath.f k l0).bind fun bt1457 => ((impl_GiftPath.f k bt1457.1 bt1457.2).bind fun bt1463 => ((spec_GiftPath.f k bt1457.1 bt1457.2).bind fun bt1467 => (if (bt1463.2 != bt1467.2) = true then (laws_FnGiftPathsExist.j0 k bt1457.1 bt1457.2 bt1463.1 bt1467.2 true) else ((laws_pGifts.f k bt1463.1 bt1467.1).bind fun t1471 => (if t1471 = true then ((laws_pBelow.f k bt1457.1 bt1457.2).bind fun t1472 => (laws_FnGiftPathsExist.j0 k bt1457.1 bt1457.2 bt1463.1 bt1467.2 (bt1463.2 != t1472))) else (laws_FnGiftPathsExist.j0 k bt1457.1 bt1457.2 bt1463.1 bt1467.2 true))))))))
def laws_FnGiftPathsExist.T23 : Bool × List (List Nat × List Nat) := (true, [([], []), ([], []), ([1], [1]), ([0, 2], [0, 2]), ([3], [3]), ([], []), ([], []), ([6], [6]), ([5, 7], [5, 7]), ([8], [8]), ([4, 9], [4, 9]), ([10], [10]), ([11], [11]), ([11], [11]), ([12, 10, 0, 1, 2, 3, 4, 5, 6, 7, 8, 9, 10, 11, 12], [12]), ([13, 14, 0, 1, 2, 3, 4, 5, 6, 7, 8, 9, 10, 11, 12, 13, 14], [13])])
def laws_FnGiftPathsExist.B23 : List Nat := [0, 0, 2, 7, 15, 0, 0, 64, 224, 480, 1023, 2047, 4095, 4095, 8191, 32767]
theorem laws_FnGiftPathsExist.tab23 : rtab .any (opsOf Try.f11 23) = laws_FnGiftPathsExist.T23 := by kernel_rfl
theorem laws_FnGiftPathsExist.bits23 : waitsOk laws_FnGiftPathsExist.T23.2 laws_FnGiftPathsExist.B23 = true := by kernel_rfl
theorem laws_FnGiftPathsExist.calls (k : Nat) (A0 : Option Addr) (c0 : Nat) (l0 : List Int) (A1 : Option Addr) (c1 : Nat) (l1 : List Int) (r : Bool) (w : World) (hr0 : Kd.C (Kd.int .u8) w A0 l0.length l0) (hc0 : l0.length ≤ c0) (hr1 : Kd.C (Kd.int .u8) w A1 l1.length l1) (hc1 : l1.length ≤ c1) (h : laws_FnGiftPathsExist.f k l0 l1 = some r) :
 Calls Try.prog 11 #[.slice A0 l0.length c0, .slice A1 l1.length c1] w fun e w' => e = .returned (.bool r) ∧ Below w.heap.size w w' := by
 have hu39 := Try.underlying39
 have HR0 := zad hr0; have HC0 := zad hc0; clear hr0 hc0; have HR1 := zad hr1; have HC1 := zad hc1; clear hr1 hc1; have HB := zad (Below.refl w.heap.size w)
 have H : ((laws_big.f l0 l1).bind fun t1456 => (if t1456 = true then (some true) else ((spec_DrawGiftPath.f k l0).bind fun bt1457 => ((impl_GiftPath.f k bt1457.1 bt1457.2).bind fun bt1463 => ((spec_GiftPath.f k bt1457.1 bt1457.2).bind fun bt1467 => (if (bt1463.2 != bt1467.2) = true then (laws_FnGiftPathsExist.j0 k bt1457.1 bt1457.2 bt1463.1 bt1467.2 true) else ((laws_pGifts.f k bt1463.1 bt1467.1).bind fun t1471 => (if t1471 = true then ((laws_pBelow.f k bt1457.1 bt1457.2).bind fun t1472 => (laws_FnGiftPathsExist.j0 k bt1457.1 bt1457.2 bt1463.1 bt1467.2 (bt1463.2 != t1472))) else (laws_FnGiftPathsExist.j0 k bt1457.1 bt1457.2 bt1463.1 bt1467.2 true))))))))) = some r := h
 clear h; replace H := zay.mp H; obtain ⟨t1456, A30, H⟩ := H
 replace H : (if t1456 = true then (some true) else ((spec_DrawGiftPath.f k l0).bind fun bt1457 => ((impl_GiftPath.f k bt1457.1 bt1457.2).bind fun bt1463 => ((spec_GiftPath.f k bt1457.1 bt1457.2).bind fun bt1467 => (if (bt1463.2 != bt1467.2) = true then (laws_FnGiftPathsExist.j0 k bt1457.1 bt1457.2 bt1463.1 bt1467.2 true) else ((laws_pGifts.f k bt1463.1 bt1467.1).bind fun t1471 => (if t1471 = true then ((laws_pBelow.f k bt1457.1 bt1457.2).bind fun t1472 => (laws_FnGiftPathsExist.j0 k bt1457.1 bt1457.2 bt1463.1 bt1467.2 (bt1463.2 != t1472))) else (laws_FnGiftPathsExist.j0 k bt1457.1 bt1457.2 bt1463.1 bt1467.2 true)))))))) = some r := H
 have A3 := zad A30; clear A30; by_cases c4 : t1456 = true
 · subst c4
   have H1 : (some true) = some r := by rw [if_pos rfl] at H; exact H
   clear H; have H := H1; clear H1; obtain rfl := zbe H
   go_enter Try.func11, Try.ntmps11
   go_wp2_with (first | ((with_reducible refine zbh (f := 13) rfl ?_); refine zbp (some 27) rfl rfl Try.func13 (by kernel_rfl) rfl #[.slice A0 l0.length c0, .slice A1 l1.length c1] rfl (taad) ?_; (with_reducible refine (laws_big.calls _ _ l0 _ _ l1 true _ ?side1 ?side2 ?side3 ?side4 A3.out).mono ?_); (case side1 => exact taga); (case side2 => exact HC0.out); (case side3 => exact tagb); (case side4 => exact HC1.out); rintro e w' ⟨rfl, ⟨nd, rfl⟩⟩; refine ⟨_, rfl, ?_⟩))
   go_ret
   exact ⟨taaj, taab⟩
 · replace c4 := zbi.mpr c4
   subst c4; have H1 : ((spec_DrawGiftPath.f k l0).bind fun bt1457 => ((impl_GiftPath.f k bt1457.1 bt1457.2).bind fun bt1463 => ((spec_GiftPath.f k bt1457.1 bt1457.2).bind fun bt1467 => (if (bt1463.2 != bt1467.2) = true then (laws_FnGiftPathsExist.j0 k bt1457.1 bt1457.2 bt1463.1 bt1467.2 true) else ((laws_pGifts.f k bt1463.1 bt1467.1).bind fun t1471 => (if t1471 = true then ((laws_pBelow.f k bt1457.1 bt1457.2).bind fun t1472 => (laws_FnGiftPathsExist.j0 k bt1457.1 bt1457.2 bt1463.1 bt1467.2 (bt1463.2 != t1472))) else (laws_FnGiftPathsExist.j0 k bt1457.1 bt1457.2 bt1463.1 bt1467.2 true))))))) = some r := by rw [if_neg (show ¬ (false = true) by decide)] at H; exact H
   clear H; have H := H1; clear H1; replace H := zay.mp H; obtain ⟨⟨t1457, t1458⟩, A50, H⟩ := H
   replace H : ((impl_GiftPath.f k t1457 t1458).bind fun bt1463 => ((spec_GiftPath.f k t1457 t1458).bind fun bt1467 => (if (bt1463.2 != bt1467.2) = true then (laws_FnGiftPathsExist.j0 k t1457 t1458 bt1463.1 bt1467.2 true) else ((laws_pGifts.f k bt1463.1 bt1467.1).bind fun t1471 => (if t1471 = true then ((laws_pBelow.f k t1457 t1458).bind fun t1472 => (laws_FnGiftPathsExist.j0 k t1457 t1458 bt1463.1 bt1467.2 (bt1463.2 != t1472))) else (laws_FnGiftPathsExist.j0 k t1457 t1458 bt1463.1 bt1467.2 true)))))) = some r := H
   have A5 := zad A50; clear A50; replace H := zay.mp H; obtain ⟨⟨t1463, t1464⟩, A60, H⟩ := H
   replace H : ((spec_GiftPath.f k t1457 t1458).bind fun bt1467 => (if (t1464 != bt1467.2) = true then (laws_FnGiftPathsExist.j0 k t1457 t1458 t1463 bt1467.2 true) else ((laws_pGifts.f k t1463 bt1467.1).bind fun t1471 => (if t1471 = true then ((laws_pBelow.f k t1457 t1458).bind fun t1472 => (laws_FnGiftPathsExist.j0 k t1457 t1458 t1463 bt1467.2 (t1464 != t1472))) else (laws_FnGiftPathsExist.j0 k t1457 t1458 t1463 bt1467.2 true))))) = some r := H
   have A6 := zad A60; clear A60; replace H := zay.mp H; obtain ⟨⟨t1467, t1468⟩, A70, H⟩ := H
   replace H : (if (t1464 != t1468) = true then (laws_FnGiftPathsExist.j0 k t1457 t1458 t1463 t1468 true) else ((laws_pGifts.f k t1463 t1467).bind fun t1471 => (if t1471 = true then ((laws_pBelow.f k t1457 t1458).bind fun t1472 => (laws_FnGiftPathsExist.j0 k t1457 t1458 t1463 t1468 (t1464 != t1472))) else (laws_FnGiftPathsExist.j0 k t1457 t1458 t1463 t1468 true)))) = some r := H
   have A7 := zad A70; clear A70; have HC8 := zad H; clear H; go_enter Try.func11, Try.ntmps11
   go_upto_region 6 with (first | ((with_reducible refine zbh (f := 13) rfl ?_); refine zbp (some 27) rfl rfl Try.func13 (by kernel_rfl) rfl #[.slice A0 l0.length c0, .slice A1 l1.length c1] rfl (taad) ?_; (with_reducible refine (laws_big.calls _ _ l0 _ _ l1 false _ ?side1 ?side2 ?side3 ?side4 A3.out).mono ?_); (case side1 => repeat (first | exact HR0.out | (with_reducible refine zal ?_ _) | (with_reducible refine zam ?_ _) | (with_reducible refine zan ?_))); (case side2 => exact HC0.out); (case side3 => repeat (first | exact HR1.out | (with_reducible refine zal ?_ _) | (with_reducible refine zam ?_ _) | (with_reducible refine zan ?_))); (case side4 => exact HC1.out); rintro e w' ⟨rfl, ⟨nd, rfl⟩⟩; refine ⟨_, rfl, ?_⟩) | ((with_reducible refine zbh (f := 72) rfl ?_); refine zbp (some 30) rfl rfl Try.func72 (by kernel_rfl) rfl #[.slice A0 l0.length c0] rfl (taad) ?_; (with_reducible refine (spec_DrawGiftPath.calls k _ _ l0 t1457 t1458 _ ?side1 ?side2 A5.out).mono ?_); (case side1 => repeat (first | exact HR0.out | (with_reducible refine zal ?_ _) | (with_reducible refine zam ?_ _) | (with_reducible refine zan ?_))); (case side2 => exact HC0.out); rintro e w9 ⟨v1459, v1461, rfl, ho0, ho1, hb⟩; refine ⟨_, rfl, ?_⟩; have n0_ := zad (zbw ho0 (zbm (taab))); have n1_ := zad (zbw ho1 (zbm (taab))); have n2_ := zad (zbg (taab) hb); clear HB; have HO1460 := n0_; have HO1462 := n1_; have HB := n2_; clear n0_ n1_ n2_; (try clear hb); (try clear hb2); (try clear hk); (try clear hi); (try clear ho0); (try clear ho1); obtain ⟨Ao10, co10, eo10⟩ := zbx HO1460.out; subst eo10; obtain ⟨Ao11, co11, eo11⟩ := zbx HO1462.out; subst eo11) | ((with_reducible refine zbh (f := 73) rfl ?_); refine zbp (some 36) rfl rfl Try.func73 (by kernel_rfl) rfl #[.slice Ao10 t1457.length co10, .slice Ao11 t1458.length co11] rfl (taad) ?_; (with_reducible refine (impl_GiftPath.calls k _ _ t1457 _ _ t1458 t1463 t1464 _ ?side1 ?side2 ?side3 ?side4 A6.out).mono ?_); (case side1 => repeat (first | exact (zbf HO1460.out).2.2 | (with_reducible refine zal ?_ _) | (with_reducible refine zam ?_ _) | (with_reducible refine zan ?_))); (case side2 => exact (zbf HO1460.out).2.1); (case side3 => repeat (first | exact (zbf HO1462.out).2.2 | (with_reducible refine zal ?_ _) | (with_reducible refine zam ?_ _) | (with_reducible refine zan ?_))); (case side4 => exact (zbf HO1462.out).2.1); rintro e w12 ⟨v1465, rfl, ho0, hb⟩; refine ⟨_, rfl, ?_⟩; have n0_ := zad (zbv (tabt) hb); have n1_ := zad (zbv (tabu) hb); have n2_ := zad (zbw ho0 (zbm (taab))); have n3_ := zad (zbg (taab) hb); clear HO1460 HO1462 HB; have HO1460 := n0_; have HO1462 := n1_; have HO1466 := n2_; have HB := n3_; clear n0_ n1_ n2_ n3_; (try clear hb); (try clear hb2); (try clear hk); (try clear hi); (try clear ho0)) | ((with_reducible refine zbh (f := 74) rfl ?_); refine zbp (some 42) rfl rfl Try.func74 (by kernel_rfl) rfl #[.slice Ao10 t1457.length co10, .slice Ao11 t1458.length co11] rfl (taad) ?_; (with_reducible refine (spec_GiftPath.calls k _ _ t1457 _ _ t1458 t1467 t1468 _ ?side1 ?side2 ?side3 ?side4 A7.out).mono ?_); (case side1 => repeat (first | exact (zbf HO1460.out).2.2 | (with_reducible refine zal ?_ _) | (with_reducible refine zam ?_ _) | (with_reducible refine zan ?_))); (case side2 => exact (zbf HO1460.out).2.1); (case side3 => repeat (first | exact (zbf HO1462.out).2.2 | (with_reducible refine zal ?_ _) | (with_reducible refine zam ?_ _) | (with_reducible refine zan ?_))); (case side4 => exact (zbf HO1462.out).2.1); rintro e w13 ⟨v1469, rfl, ho0, hb⟩; refine ⟨_, rfl, ?_⟩; have n0_ := zad (zbv (tabt) hb); have n1_ := zad (zbv (tabu) hb); have n2_ := zad (zcd (tadl) (zcf ho0) hb); have n3_ := zad (zbw (zce ho0 (zcg (tadl))) (zbm (taab))); have n4_ := zad (zbg (taab) hb); clear HO1460 HO1462 HO1466 HB; have HO1460 := n0_; have HO1462 := n1_; have HO1466 := n2_; have HO1470 := n3_; have HB := n4_; clear n0_ n1_ n2_ n3_ n4_; (try clear hb); (try clear hb2); (try clear hk); (try clear hi); (try clear ho0)))
   (try simp only [Act.put, zaa, zab, zac])
   go_cut [60] (fun v60 wc => ∃ (kq : Nat) (x60_7 : Bool), v60 = .bool x60_7 ∧ Aside0 (laws_FnGiftPathsExist.j0 kq t1457 t1458 t1463 t1468 x60_7 = some r) ∧ Aside0 (kq ≤ k) ∧ Aside0 (Kd.R (Kd.int .i64) 3 wc w.heap.size (fun k_ => some k_ ≠ ((.slice Ao11 t1458.length co11) : Value).ownBlock) (.slice Ao10 t1457.length co10) t1457) ∧ Aside0 (Kd.R (Kd.int .i64) 3 wc w.heap.size (fun k_ => some k_ ≠ ((.slice Ao10 t1457.length co10) : Value).ownBlock) (.slice Ao11 t1458.length co11) t1458) ∧ Aside0 (Kd.R k39 39 wc w.heap.size (fun _ => True) v1465 t1463) ∧ Aside0 (Below w.heap.size w wc))
   case first => as_aux_lemma =>
    have H := HC8.out
    clear HC8; by_cases c14 : (t1464 != t1468) = true
    · rw [if_pos c14] at H
      have c14b0 : (t1464 != t1468) = true := c14
      (try (have c14b1 : decide (t1464 = t1468) = false := by simpa using c14))
      (try (have c14b2 : (t1464 == t1468) = false := by simpa using c14))
      (try (have c14b3 : ¬ (t1464 = t1468) := by simpa using c14))
      clear c14; (first | rw [c14b0] | (simp only [zby, zbz]; rw [c14b0]) | skip)
      have H' := zad H
      clear H; go_wp2
      go_meet
      case rel => exact ⟨_, (true), (taag), H', ⟨by first | omega | exact zch _⟩, ⟨tabt⟩, ⟨tabu⟩, ⟨tadm⟩, ⟨taab⟩⟩
    · rw [if_neg c14] at H
      have c14b0 : (t1464 != t1468) = false := by simpa using c14
      (try (have c14b1 : decide (t1464 = t1468) = true := by simpa using c14))
      (try (have c14b2 : (t1464 == t1468) = true := by simpa using c14))
      clear c14; (first | rw [c14b0] | (simp only [zby, zbz]; rw [c14b0]) | skip)
      replace H := zay.mp H; obtain ⟨t1471, A150, H⟩ := H
      replace H : (if t1471 = true then ((laws_pBelow.f k t1457 t1458).bind fun t1472 => (laws_FnGiftPathsExist.j0 k t1457 t1458 t1463 t1468 (t1464 != t1472))) else (laws_FnGiftPathsExist.j0 k t1457 t1458 t1463 t1468 true)) = some r := H
      have A15 := zad A150; clear A150; by_cases c16 : t1471 = true
      · subst c16
        have H1 : ((laws_pBelow.f k t1457 t1458).bind fun t1472 => (laws_FnGiftPathsExist.j0 k t1457 t1458 t1463 t1468 (t1464 != t1472))) = some r := by rw [if_pos rfl] at H; exact H
        clear H; have H := H1; clear H1; replace H := zay.mp H; obtain ⟨t1472, A170, H⟩ := H
        replace H : (laws_FnGiftPathsExist.j0 k t1457 t1458 t1463 t1468 (t1464 != t1472)) = some r := H
        have A17 := zad A170; clear A170; have H' := zad H
        clear H; obtain ⟨Ao18, co18, eo18⟩ := zbx HO1466.out
        subst eo18; obtain ⟨Ao19, co19, eo19⟩ := zbx HO1470.out
        subst eo19; go_wp2_with (first | (go_at_call 61; (with_reducible refine (laws_pGifts.calls k _ _ t1463 _ _ t1467 true _ ?side1 ?side2 ?side3 ?side4 A15.out).mono ?_); (case side1 => repeat (first | exact (zbf HO1466.out).2.2 | (with_reducible refine zal ?_ _) | (with_reducible refine zam ?_ _) | (with_reducible refine zan ?_))); (case side2 => exact (zbf HO1466.out).2.1); (case side3 => repeat (first | exact (zbf HO1470.out).2.2 | (with_reducible refine zal ?_ _) | (with_reducible refine zam ?_ _) | (with_reducible refine zan ?_))); (case side4 => exact (zbf HO1470.out).2.1); rintro e w' ⟨rfl, ⟨nd, rfl⟩⟩) | (go_at_call 22; (with_reducible refine (laws_pBelow.calls k _ _ t1457 _ _ t1458 t1472 _ ?side1 ?side2 ?side3 ?side4 A17.out).mono ?_); (case side1 => repeat (first | exact (zbf HO1460.out).2.2 | (with_reducible refine zal ?_ _) | (with_reducible refine zam ?_ _) | (with_reducible refine zan ?_))); (case side2 => exact (zbf HO1460.out).2.1); (case side3 => repeat (first | exact (zbf HO1462.out).2.2 | (with_reducible refine zal ?_ _) | (with_reducible refine zam ?_ _) | (with_reducible refine zan ?_))); (case side4 => exact (zbf HO1462.out).2.1); rintro e w20 ⟨rfl, hb⟩; have n0_ := zad (zbv (tabt) hb); have n1_ := zad (zbv (tabu) hb); have n2_ := zad (zbv (tadl) hb); have n3_ := zad (zbv (by (with_reducible repeat (first | apply zai | apply zaj | apply zak)); exact HO1470.out) hb); have n4_ := zad (zbg (taab) hb); clear HO1460 HO1462 HO1466 HO1470 HB; have HO1460 := n0_; have HO1462 := n1_; have HO1466 := n2_; have HO1470 := n3_; have HB := n4_; clear n0_ n1_ n2_ n3_ n4_; (try clear hb); (try clear hb2); (try clear hk); (try clear hi)))
        go_meet
        case rel => exact ⟨_, ((t1464 != t1472)), (taag), H', ⟨by first | omega | exact zch _⟩, ⟨tabt⟩, ⟨tabu⟩, ⟨tadm⟩, ⟨taab⟩⟩
      · replace c16 := zbi.mpr c16
        subst c16; have H1 : (laws_FnGiftPathsExist.j0 k t1457 t1458 t1463 t1468 true) = some r := by rw [if_neg (show ¬ (false = true) by decide)] at H; exact H
        clear H; have H := H1; clear H1; have H' := zad H
        clear H; obtain ⟨Ao21, co21, eo21⟩ := zbx HO1466.out
        subst eo21; obtain ⟨Ao22, co22, eo22⟩ := zbx HO1470.out
        subst eo22; go_wp2_with (first | (go_at_call 61; (with_reducible refine (laws_pGifts.calls k _ _ t1463 _ _ t1467 false _ ?side1 ?side2 ?side3 ?side4 A15.out).mono ?_); (case side1 => repeat (first | exact (zbf HO1466.out).2.2 | (with_reducible refine zal ?_ _) | (with_reducible refine zam ?_ _) | (with_reducible refine zan ?_))); (case side2 => exact (zbf HO1466.out).2.1); (case side3 => repeat (first | exact (zbf HO1470.out).2.2 | (with_reducible refine zal ?_ _) | (with_reducible refine zam ?_ _) | (with_reducible refine zan ?_))); (case side4 => exact (zbf HO1470.out).2.1); rintro e w' ⟨rfl, ⟨nd, rfl⟩⟩))
        go_meet
        case rel => exact ⟨_, (true), (taag), H', ⟨by first | omega | exact zch _⟩, ⟨tabt⟩, ⟨tabu⟩, ⟨tadm⟩, ⟨taab⟩⟩
   case rest => as_aux_lemma =>
    clear HC8; try clear c1
    try clear p2
    try clear c4
    try clear c7
    try clear c11
    try clear c13
    try clear c14
    try clear c14b0
    try clear c14b1
    try clear c14b2
    try clear c16
    obtain ⟨kq, x60_7, rfl, HA, HJ7, HO_5, HO_6, HO_7, HB⟩ := hcut
    cases kq with
    | zero => exact absurd HA.out (by simp [laws_FnGiftPathsExist.j0])
    | succ kj7 =>
     have H := HA.out
     clear HA; simp only [laws_FnGiftPathsExist.j0] at H
     by_cases c23 : x60_7 = true
     · subst c23
       have H1 : (some false) = some r := by rw [if_pos rfl] at H; exact H
       clear H; have H := H1; clear H1; obtain rfl := zbe H
       go_wp2
       go_ret
       exact ⟨taaj, taab⟩
     · replace c23 := zbi.mpr c23
       subst c23; have H1 : (if t1468 = true then ((impl_FewestUnits.f kj7 t1457 t1458).bind fun bt1473 => ((impl_IsGiftPath.f t1457 t1458 t1463).bind fun bt1475 => ((impl_FollowGifts.f kj7 t1458 t1463).bind fun bt1477 => (if bt1473.2 = true then (if bt1475.2 = true then (if bt1477.2 = true then (if bt1475.1 = true then (if bt1473.1 = (t1463.length : Int) then (laws_FnGiftPathsExist.j1 kj7 t1457 t1458 t1463 bt1477.1 ((bt1477.1.length : Int) != (wrap64 ((t1463.length : Int) + 1)))) else (laws_FnGiftPathsExist.j1 kj7 t1457 t1458 t1463 bt1477.1 true)) else (laws_FnGiftPathsExist.j1 kj7 t1457 t1458 t1463 bt1477.1 true)) else (laws_FnGiftPathsExist.j1 kj7 t1457 t1458 t1463 bt1477.1 true)) else (laws_FnGiftPathsExist.j1 kj7 t1457 t1458 t1463 bt1477.1 true)) else (laws_FnGiftPathsExist.j1 kj7 t1457 t1458 t1463 bt1477.1 true))))) else (some true)) = some r := by rw [if_neg (show ¬ (false = true) by decide)] at H; exact H
       clear H; have H := H1; clear H1; by_cases c24 : t1468 = true
       · subst c24
         have H1 : ((impl_FewestUnits.f kj7 t1457 t1458).bind fun bt1473 => ((impl_IsGiftPath.f t1457 t1458 t1463).bind fun bt1475 => ((impl_FollowGifts.f kj7 t1458 t1463).bind fun bt1477 => (if bt1473.2 = true then (if bt1475.2 = true then (if bt1477.2 = true then (if bt1475.1 = true then (if bt1473.1 = (t1463.length : Int) then (laws_FnGiftPathsExist.j1 kj7 t1457 t1458 t1463 bt1477.1 ((bt1477.1.length : Int) != (wrap64 ((t1463.length : Int) + 1)))) else (laws_FnGiftPathsExist.j1 kj7 t1457 t1458 t1463 bt1477.1 true)) else (laws_FnGiftPathsExist.j1 kj7 t1457 t1458 t1463 bt1477.1 true)) else (laws_FnGiftPathsExist.j1 kj7 t1457 t1458 t1463 bt1477.1 true)) else (laws_FnGiftPathsExist.j1 kj7 t1457 t1458 t1463 bt1477.1 true)) else (laws_FnGiftPathsExist.j1 kj7 t1457 t1458 t1463 bt1477.1 true))))) = some r := by rw [if_pos rfl] at H; exact H
         clear H; have H := H1; clear H1; replace H := zay.mp H; obtain ⟨⟨t1473, t1474⟩, A250, H⟩ := H
         replace H : ((impl_IsGiftPath.f t1457 t1458 t1463).bind fun bt1475 => ((impl_FollowGifts.f kj7 t1458 t1463).bind fun bt1477 => (if t1474 = true then (if bt1475.2 = true then (if bt1477.2 = true then (if bt1475.1 = true then (if t1473 = (t1463.length : Int) then (laws_FnGiftPathsExist.j1 kj7 t1457 t1458 t1463 bt1477.1 ((bt1477.1.length : Int) != (wrap64 ((t1463.length : Int) + 1)))) else (laws_FnGiftPathsExist.j1 kj7 t1457 t1458 t1463 bt1477.1 true)) else (laws_FnGiftPathsExist.j1 kj7 t1457 t1458 t1463 bt1477.1 true)) else (laws_FnGiftPathsExist.j1 kj7 t1457 t1458 t1463 bt1477.1 true)) else (laws_FnGiftPathsExist.j1 kj7 t1457 t1458 t1463 bt1477.1 true)) else (laws_FnGiftPathsExist.j1 kj7 t1457 t1458 t1463 bt1477.1 true)))) = some r := H
         have A25 := zad A250; clear A250; replace H := zay.mp H; obtain ⟨⟨t1475, t1476⟩, A260, H⟩ := H
         replace H : ((impl_FollowGifts.f kj7 t1458 t1463).bind fun bt1477 => (if t1474 = true then (if t1476 = true then (if bt1477.2 = true then (if t1475 = true then (if t1473 = (t1463.length : Int) then (laws_FnGiftPathsExist.j1 kj7 t1457 t1458 t1463 bt1477.1 ((bt1477.1.length : Int) != (wrap64 ((t1463.length : Int) + 1)))) else (laws_FnGiftPathsExist.j1 kj7 t1457 t1458 t1463 bt1477.1 true)) else (laws_FnGiftPathsExist.j1 kj7 t1457 t1458 t1463 bt1477.1 true)) else (laws_FnGiftPathsExist.j1 kj7 t1457 t1458 t1463 bt1477.1 true)) else (laws_FnGiftPathsExist.j1 kj7 t1457 t1458 t1463 bt1477.1 true)) else (laws_FnGiftPathsExist.j1 kj7 t1457 t1458 t1463 bt1477.1 true))) = some r := H
         have A26 := zad A260; clear A260; replace H := zay.mp H; obtain ⟨⟨t1477, t1478⟩, A270, H⟩ := H
         replace H : (if t1474 = true then (if t1476 = true then (if t1478 = true then (if t1475 = true then (if t1473 = (t1463.length : Int) then (laws_FnGiftPathsExist.j1 kj7 t1457 t1458 t1463 t1477 ((t1477.length : Int) != (wrap64 ((t1463.length : Int) + 1)))) else (laws_FnGiftPathsExist.j1 kj7 t1457 t1458 t1463 t1477 true)) else (laws_FnGiftPathsExist.j1 kj7 t1457 t1458 t1463 t1477 true)) else (laws_FnGiftPathsExist.j1 kj7 t1457 t1458 t1463 t1477 true)) else (laws_FnGiftPathsExist.j1 kj7 t1457 t1458 t1463 t1477 true)) else (laws_FnGiftPathsExist.j1 kj7 t1457 t1458 t1463 t1477 true)) = some r := H
         have A27 := zad A270; clear A270; have HC28 := zad H; clear H; go_upto_region 13 with (first | ((with_reducible refine zbh (f := 62) rfl ?_); refine zbp (some 66) rfl rfl Try.func62 (by kernel_rfl) rfl #[.slice Ao10 t1457.length co10, .slice Ao11 t1458.length co11] rfl (taad) ?_; (with_reducible refine (impl_FewestUnits.calls kj7 _ _ t1457 _ _ t1458 t1473 t1474 _ ?side1 ?side2 ?side3 ?side4 A25.out).mono ?_); (case side1 => repeat (first | exact (zbf HO_5.out).2.2 | (with_reducible refine zal ?_ _) | (with_reducible refine zam ?_ _) | (with_reducible refine zan ?_))); (case side2 => exact (zbf HO_5.out).2.1); (case side3 => repeat (first | exact (zbf HO_6.out).2.2 | (with_reducible refine zal ?_ _) | (with_reducible refine zam ?_ _) | (with_reducible refine zan ?_))); (case side4 => exact (zbf HO_6.out).2.1); rintro e w29 ⟨rfl, hb⟩; refine ⟨_, rfl, ?_⟩; have n0_ := zad (zbv (taak) hb); have n1_ := zad (zbv (taai) hb); have n2_ := zad (zbv (taah) hb); have n3_ := zad (zbg (taab) hb); clear HO_5 HO_6 HO_7 HB; have HO_5 := n0_; have HO_6 := n1_; have HO_7 := n2_; have HB := n3_; clear n0_ n1_ n2_ n3_; (try clear hb); (try clear hb2); (try clear hk); (try clear hi); obtain ⟨Ao30, co30, eo30⟩ := zbx HO_7.out; subst eo30) | ((with_reducible refine zbh (f := 63) rfl ?_); refine zbp (some 73) rfl rfl Try.func63 (by kernel_rfl) rfl #[.slice Ao10 t1457.length co10, .slice Ao11 t1458.length co11, .slice Ao30 t1463.length co30] rfl (taad) ?_; (with_reducible refine (impl_IsGiftPath.calls _ _ t1457 _ _ t1458 _ _ t1463 t1475 t1476 _ ?side1 ?side2 ?side3 ?side4 ?side5 ?side6 A26.out).mono ?_); (case side1 => repeat (first | exact (zbf HO_5.out).2.2 | (with_reducible refine zal ?_ _) | (with_reducible refine zam ?_ _) | (with_reducible refine zan ?_))); (case side2 => exact (zbf HO_5.out).2.1); (case side3 => repeat (first | exact (zbf HO_6.out).2.2 | (with_reducible refine zal ?_ _) | (with_reducible refine zam ?_ _) | (with_reducible refine zan ?_))); (case side4 => exact (zbf HO_6.out).2.1); (case side5 => repeat (first | exact (zbf HO_7.out).2.2 | (with_reducible refine zal ?_ _) | (with_reducible refine zam ?_ _) | (with_reducible refine zan ?_))); (case side6 => exact (zbf HO_7.out).2.1); rintro e w31 ⟨rfl, hb⟩; refine ⟨_, rfl, ?_⟩; have n0_ := zad (zbv (taak) hb); have n1_ := zad (zbv (taai) hb); have n2_ := zad (zbv (taah) hb); have n3_ := zad (zbg (taab) hb); clear HO_5 HO_6 HO_7 HB; have HO_5 := n0_; have HO_6 := n1_; have HO_7 := n2_; have HB := n3_; clear n0_ n1_ n2_ n3_; (try clear hb); (try clear hb2); (try clear hk); (try clear hi)) | ((with_reducible refine zbh (f := 75) rfl ?_); refine zbp (some 79) rfl rfl Try.func75 (by kernel_rfl) rfl #[.slice Ao11 t1458.length co11, .slice Ao30 t1463.length co30] rfl (taad) ?_; (with_reducible refine (impl_FollowGifts.calls kj7 _ _ t1458 _ _ t1463 t1477 t1478 _ ?side1 ?side2 ?side3 ?side4 A27.out).mono ?_); (case side1 => repeat (first | exact (zbf HO_6.out).2.2 | (with_reducible refine zal ?_ _) | (with_reducible refine zam ?_ _) | (with_reducible refine zan ?_))); (case side2 => exact (zbf HO_6.out).2.1); (case side3 => repeat (first | exact (zbf HO_7.out).2.2 | (with_reducible refine zal ?_ _) | (with_reducible refine zam ?_ _) | (with_reducible refine zan ?_))); (case side4 => exact (zbf HO_7.out).2.1); rintro e w32 ⟨v1479, rfl, ho0, hb⟩; refine ⟨_, rfl, ?_⟩; have n0_ := zad (zbv (taak) hb); have n1_ := zad (zbv (taai) hb); have n2_ := zad (zbv (taah) hb); have n3_ := zad (Kd.S_lower (Kd.S_new' (Kd.S_new' ho0 (zcg (taak))) (zcg (taai))) (zbm (taab))); have n4_ := zad (zbg (taab) hb); clear HO_5 HO_6 HO_7 HB; have HO_5 := n0_; have HO_6 := n1_; have HO_7 := n2_; have HO1480 := n3_; have HB := n4_; clear n0_ n1_ n2_ n3_ n4_; (try clear hb); (try clear hb2); (try clear hk); (try clear hi); (try clear ho0)))
         (try simp only [Act.put, zaa, zab, zac])
         go_cut [109] (fun v109 wc => ∃ (kq : Nat) (x109_27 : Bool), v109 = .bool x109_27 ∧ Aside0 (laws_FnGiftPathsExist.j1 kq t1457 t1458 t1463 t1477 x109_27 = some r) ∧ Aside0 (kq ≤ kj7) ∧ Aside0 (Kd.R (Kd.int .i64) 3 wc w.heap.size (fun k_ => some k_ ≠ ((.slice Ao11 t1458.length co11) : Value).ownBlock) (.slice Ao10 t1457.length co10) t1457) ∧ Aside0 (Kd.R (Kd.int .i64) 3 wc w.heap.size (fun k_ => some k_ ≠ ((.slice Ao10 t1457.length co10) : Value).ownBlock) (.slice Ao11 t1458.length co11) t1458) ∧ Aside0 (Kd.R k39 39 wc w.heap.size (fun _ => True) (.slice Ao30 t1463.length co30) t1463) ∧ Aside0 (Kd.S (Kd.slice 3 (Kd.int .i64)) 26 wc w.heap.size (fun k_ => some k_ ≠ ((.slice Ao10 t1457.length co10) : Value).ownBlock ∧ some k_ ≠ ((.slice Ao11 t1458.length co11) : Value).ownBlock) v1479 t1477) ∧ Aside0 (Below w.heap.size w wc))
         case first => as_aux_lemma =>
          have H := HC28.out
          clear HC28; by_cases c33 : t1474 = true
          · subst c33
            have H1 : (if t1476 = true then (if t1478 = true then (if t1475 = true then (if t1473 = (t1463.length : Int) then (laws_FnGiftPathsExist.j1 kj7 t1457 t1458 t1463 t1477 ((t1477.length : Int) != (wrap64 ((t1463.length : Int) + 1)))) else (laws_FnGiftPathsExist.j1 kj7 t1457 t1458 t1463 t1477 true)) else (laws_FnGiftPathsExist.j1 kj7 t1457 t1458 t1463 t1477 true)) else (laws_FnGiftPathsExist.j1 kj7 t1457 t1458 t1463 t1477 true)) else (laws_FnGiftPathsExist.j1 kj7 t1457 t1458 t1463 t1477 true)) = some r := by rw [if_pos rfl] at H; exact H
            clear H; have H := H1; clear H1; by_cases c34 : t1476 = true
            · subst c34
              have H1 : (if t1478 = true then (if t1475 = true then (if t1473 = (t1463.length : Int) then (laws_FnGiftPathsExist.j1 kj7 t1457 t1458 t1463 t1477 ((t1477.length : Int) != (wrap64 ((t1463.length : Int) + 1)))) else (laws_FnGiftPathsExist.j1 kj7 t1457 t1458 t1463 t1477 true)) else (laws_FnGiftPathsExist.j1 kj7 t1457 t1458 t1463 t1477 true)) else (laws_FnGiftPathsExist.j1 kj7 t1457 t1458 t1463 t1477 true)) = some r := by rw [if_pos rfl] at H; exact H
              clear H; have H := H1; clear H1; by_cases c35 : t1478 = true
              · subst c35
                have H1 : (if t1475 = true then (if t1473 = (t1463.length : Int) then (laws_FnGiftPathsExist.j1 kj7 t1457 t1458 t1463 t1477 ((t1477.length : Int) != (wrap64 ((t1463.length : Int) + 1)))) else (laws_FnGiftPathsExist.j1 kj7 t1457 t1458 t1463 t1477 true)) else (laws_FnGiftPathsExist.j1 kj7 t1457 t1458 t1463 t1477 true)) = some r := by rw [if_pos rfl] at H; exact H
                clear H; have H := H1; clear H1; by_cases c36 : t1475 = true
                · subst c36
                  have H1 : (if t1473 = (t1463.length : Int) then (laws_FnGiftPathsExist.j1 kj7 t1457 t1458 t1463 t1477 ((t1477.length : Int) != (wrap64 ((t1463.length : Int) + 1)))) else (laws_FnGiftPathsExist.j1 kj7 t1457 t1458 t1463 t1477 true)) = some r := by rw [if_pos rfl] at H; exact H
                  clear H; have H := H1; clear H1; by_cases c37 : t1473 = (t1463.length : Int)
                  · rw [if_pos c37] at H
                    have c37b0 : (t1473 == (t1463.length : Int)) = true := beq_iff_eq.mpr c37
                    have c37b1 : (t1473 != (t1463.length : Int)) = false := bne_eq_false_iff_eq.mpr c37
                    clear c37; (first | rw [c37b0] | (simp only [zby, zbz]; rw [c37b0]) | skip)
                    have H' := zad H
                    clear H; obtain ⟨Ao38, co38, eo38⟩ := Kd.S_slice HO1480.out
                    subst eo38; go_wp2
                    go_meet
                    case rel => exact ⟨_, (((t1477.length : Int) != (wrap64 ((t1463.length : Int) + 1)))), (taag), H', ⟨tabv⟩, ⟨taak⟩, ⟨taai⟩, ⟨taah⟩, ⟨tabw⟩, ⟨taab⟩⟩
                  · rw [if_neg c37] at H
                    have c37b0 : (t1473 == (t1463.length : Int)) = false := zbq.mpr c37
                    have c37b1 : (t1473 != (t1463.length : Int)) = true := bne_iff_ne.mpr c37
                    (first | rw [c37b0] | (simp only [zby, zbz]; rw [c37b0]) | skip)
                    have H' := zad H
                    clear H; go_wp2
                    go_meet
                    case rel => exact ⟨_, (true), (taag), H', ⟨tabv⟩, ⟨taak⟩, ⟨taai⟩, ⟨taah⟩, ⟨tabw⟩, ⟨taab⟩⟩
                · replace c36 := zbi.mpr c36
                  subst c36; have H1 : (laws_FnGiftPathsExist.j1 kj7 t1457 t1458 t1463 t1477 true) = some r := by rw [if_neg (show ¬ (false = true) by decide)] at H; exact H
                  clear H; have H := H1; clear H1; have H' := zad H
                  clear H; go_wp2
                  go_meet
                  case rel => exact ⟨_, (true), (taag), H', ⟨tabv⟩, ⟨taak⟩, ⟨taai⟩, ⟨taah⟩, ⟨tabw⟩, ⟨taab⟩⟩
              · replace c35 := zbi.mpr c35
                subst c35; have H1 : (laws_FnGiftPathsExist.j1 kj7 t1457 t1458 t1463 t1477 true) = some r := by rw [if_neg (show ¬ (false = true) by decide)] at H; exact H
                clear H; have H := H1; clear H1; have H' := zad H
                clear H; go_wp2
                go_meet
                case rel => exact ⟨_, (true), (taag), H', ⟨tabv⟩, ⟨taak⟩, ⟨taai⟩, ⟨taah⟩, ⟨tabw⟩, ⟨taab⟩⟩
            · replace c34 := zbi.mpr c34
              subst c34; have H1 : (laws_FnGiftPathsExist.j1 kj7 t1457 t1458 t1463 t1477 true) = some r := by rw [if_neg (show ¬ (false = true) by decide)] at H; exact H
              clear H; have H := H1; clear H1; have H' := zad H
              clear H; go_wp2
              go_meet
              case rel => exact ⟨_, (true), (taag), H', ⟨tabv⟩, ⟨taak⟩, ⟨taai⟩, ⟨taah⟩, ⟨tabw⟩, ⟨taab⟩⟩
          · replace c33 := zbi.mpr c33
            subst c33; have H1 : (laws_FnGiftPathsExist.j1 kj7 t1457 t1458 t1463 t1477 true) = some r := by rw [if_neg (show ¬ (false = true) by decide)] at H; exact H
            clear H; have H := H1; clear H1; have H' := zad H
            clear H; go_wp2
            go_meet
            case rel => exact ⟨_, (true), (taag), H', ⟨tabv⟩, ⟨taak⟩, ⟨taai⟩, ⟨taah⟩, ⟨tabw⟩, ⟨taab⟩⟩
         case rest => as_aux_lemma =>
          clear HC28; try clear c1
          try clear c2
          try clear p2
          try clear c3
          try clear c4
          try clear c6
          try clear p6
          try clear c7
          try clear c11
          try clear c13
          try clear c14
          try clear c14b0
          try clear c14b1
          try clear c14b2
          try clear c16
          try clear c23
          try clear c24
          try clear c33
          try clear c34
          try clear c35
          try clear c36
          try clear c37
          try clear c37b0
          try clear c37b1
          try clear p2
          obtain ⟨kq, x109_27, rfl, HA, HJ27, HO_5, HO_6, HO_7, HO_15, HB⟩ := hcut
          cases kq with
          | zero => exact absurd HA.out (by simp [laws_FnGiftPathsExist.j1])
          | succ kj27 =>
           have H := HA.out
           clear HA; simp only [laws_FnGiftPathsExist.j1] at H
           by_cases c39 : x109_27 = true
           · subst c39
             have H1 : (some false) = some r := by rw [if_pos rfl] at H; exact H
             clear H; have H := H1; clear H1; obtain rfl := zbe H
             go_wp2
             go_ret
             exact ⟨taaj, taab⟩
           · replace c39 := zbi.mpr c39
             subst c39; have H1 : (laws_FnGiftPathsExist.l0 kj27 t1457 t1458 t1463 t1477 t1477 (t1477.length : Int) 0) = some r := by rw [if_neg (show ¬ (false = true) by decide)] at H; exact H
             clear H; have H := H1; clear H1; have H' := zad H
             clear H; obtain ⟨Ao40, co40, eo40⟩ := Kd.S_slice HO_15.out
             subst eo40; go_wp2
             go_loopg [112] kj27 (fun kq v112 w' => ∃ (x112_3 : Int), v112 = .int .i64 x112_3 ∧ Aside0 (laws_FnGiftPathsExist.l0 kq t1457 t1458 t1463 t1477 t1477 (t1477.length : Int) x112_3 = some r) ∧ Aside0 (kq ≤ kj27) ∧ Aside0 (Kd.R (Kd.int .i64) 3 w' w.heap.size (fun k_ => some k_ ≠ ((.slice Ao11 t1458.length co11) : Value).ownBlock) (.slice Ao10 t1457.length co10) t1457) ∧ Aside0 (Kd.R (Kd.int .i64) 3 w' w.heap.size (fun k_ => some k_ ≠ ((.slice Ao10 t1457.length co10) : Value).ownBlock) (.slice Ao11 t1458.length co11) t1458) ∧ Aside0 (Kd.R k39 39 w' w.heap.size (fun _ => True) (.slice Ao30 t1463.length co30) t1463) ∧ Aside0 (Kd.S (Kd.slice 3 (Kd.int .i64)) 26 w' w.heap.size (fun k_ => some k_ ≠ ((.slice Ao10 t1457.length co10) : Value).ownBlock ∧ some k_ ≠ ((.slice Ao11 t1458.length co11) : Value).ownBlock) (.slice Ao40 t1477.length co40) t1477) ∧ Aside0 (Kd.S (Kd.slice 3 (Kd.int .i64)) 26 w' w.heap.size (fun k_ => some k_ ≠ ((.slice Ao10 t1457.length co10) : Value).ownBlock ∧ some k_ ≠ ((.slice Ao11 t1458.length co11) : Value).ownBlock) (.slice Ao40 t1477.length co40) t1477) ∧ Aside0 (Below w.heap.size w w'))
             case atStart => exact ⟨(0), (taag), H', ⟨zch _⟩, ⟨taak⟩, ⟨taai⟩, ⟨taah⟩, ⟨taao⟩, ⟨taao⟩, ⟨taab⟩⟩
             case round =>
              clear H'
              try clear c1
              try clear c2
              try clear p2
              try clear c3
              try clear c4
              try clear c6
              try clear p6
              try clear c7
              try clear c11
              try clear c13
              try clear c14
              try clear c14b0
              try clear c14b1
              try clear c14b2
              try clear c16
              try clear c23
              try clear c24
              try clear c33
              try clear c34
              try clear c35
              try clear c36
              try clear c37
              try clear c37b0
              try clear c37b1
              try clear c39
              try clear p2
              try clear p6
              obtain ⟨x112_3, rfl, HA, HK3, HO_5, HO_6, HO_7, HO_15, HO_110, HB⟩ := hrel
              cases gk with
              | zero => exact absurd HA.out (by simp [laws_FnGiftPathsExist.l0])
              | succ k3 =>
               have H := HA.out
               clear HA; simp only [laws_FnGiftPathsExist.l0] at H
               by_cases c41 : x112_3 < (t1477.length : Int)
               · rw [if_pos c41] at H
                 have c41b0 : decide (x112_3 < (t1477.length : Int)) = true := zba c41
                 clear c41; by_cases c42 : 0 ≤ x112_3
                 · rw [if_pos c42] at H
                   have c42b0 : decide (0 ≤ x112_3) = true := zba c42
                   clear c42; by_cases c43 : x112_3 < (t1477.length : Int)
                   · rw [if_pos c43] at H
                     have c43b0 : decide (x112_3 < (t1477.length : Int)) = true := zba c43
                     clear c43; replace H := zay.mp H; obtain ⟨t1496, A440, H⟩ := H
                     replace H : (if t1496 = true then ((laws_pBelow.f k3 (rd_L2 t1477 x112_3) t1458).bind fun t1497 => (if t1497 = true then (if x112_3 = 0 then (laws_FnGiftPathsExist.l0 k3 t1457 t1458 t1463 t1477 t1477 (t1477.length : Int) (wrap64 (x112_3 + 1))) else (if 0 ≤ (wrap64 (x112_3 - 1)) then (if (wrap64 (x112_3 - 1)) < (t1477.length : Int) then ((impl_SquareSum.f k3 (rd_L2 t1477 (wrap64 (x112_3 - 1)))).bind fun bt1499 => ((impl_SquareSum.f k3 (rd_L2 t1477 x112_3)).bind fun bt1501 => (if (wrap64 (x112_3 - 1)) < (t1463.length : Int) then ((impl_SquaresFall.f k3 (rd_L2 t1477 (wrap64 (x112_3 - 1))) ((rd_T39 t1463 (wrap64 (x112_3 - 1))).f0) ((rd_T39 t1463 (wrap64 (x112_3 - 1))).f1) ((rd_T39 t1463 (wrap64 (x112_3 - 1))).f2)).bind fun bt1505 => (if bt1499.2 = true then (if bt1501.2 = true then (if bt1505.2 = true then (if bt1505.1 ≤ 0 then (some false) else (if (wrap64 (bt1499.1 - bt1501.1)) = bt1505.1 then (laws_FnGiftPathsExist.l0 k3 t1457 t1458 t1463 t1477 t1477 (t1477.length : Int) (wrap64 (x112_3 + 1))) else (some false))) else (some false)) else (some false)) else (some false))) else (none)))) else (none)) else (none))) else (some false))) else (some false)) = some r := H
                     have A44 := zad A440; clear A440; by_cases c45 : t1496 = true
                     · subst c45
                       have H1 : ((laws_pBelow.f k3 (rd_L2 t1477 x112_3) t1458).bind fun t1497 => (if t1497 = true then (if x112_3 = 0 then (laws_FnGiftPathsExist.l0 k3 t1457 t1458 t1463 t1477 t1477 (t1477.length : Int) (wrap64 (x112_3 + 1))) else (if 0 ≤ (wrap64 (x112_3 - 1)) then (if (wrap64 (x112_3 - 1)) < (t1477.length : Int) then ((impl_SquareSum.f k3 (rd_L2 t1477 (wrap64 (x112_3 - 1)))).bind fun bt1499 => ((impl_SquareSum.f k3 (rd_L2 t1477 x112_3)).bind fun bt1501 => (if (wrap64 (x112_3 - 1)) < (t1463.length : Int) then ((impl_SquaresFall.f k3 (rd_L2 t1477 (wrap64 (x112_3 - 1))) ((rd_T39 t1463 (wrap64 (x112_3 - 1))).f0) ((rd_T39 t1463 (wrap64 (x112_3 - 1))).f1) ((rd_T39 t1463 (wrap64 (x112_3 - 1))).f2)).bind fun bt1505 => (if bt1499.2 = true then (if bt1501.2 = true then (if bt1505.2 = true then (if bt1505.1 ≤ 0 then (some false) else (if (wrap64 (bt1499.1 - bt1501.1)) = bt1505.1 then (laws_FnGiftPathsExist.l0 k3 t1457 t1458 t1463 t1477 t1477 (t1477.length : Int) (wrap64 (x112_3 + 1))) else (some false))) else (some false)) else (some false)) else (some false))) else (none)))) else (none)) else (none))) else (some false))) = some r := by rw [if_pos rfl] at H; exact H
                       clear H; have H := H1; clear H1; replace H := zay.mp H; obtain ⟨t1497, A460, H⟩ := H
                       replace H : (if t1497 = true then (if x112_3 = 0 then (laws_FnGiftPathsExist.l0 k3 t1457 t1458 t1463 t1477 t1477 (t1477.length : Int) (wrap64 (x112_3 + 1))) else (if 0 ≤ (wrap64 (x112_3 - 1)) then (if (wrap64 (x112_3 - 1)) < (t1477.length : Int) then ((impl_SquareSum.f k3 (rd_L2 t1477 (wrap64 (x112_3 - 1)))).bind fun bt1499 => ((impl_SquareSum.f k3 (rd_L2 t1477 x112_3)).bind fun bt1501 => (if (wrap64 (x112_3 - 1)) < (t1463.length : Int) then ((impl_SquaresFall.f k3 (rd_L2 t1477 (wrap64 (x112_3 - 1))) ((rd_T39 t1463 (wrap64 (x112_3 - 1))).f0) ((rd_T39 t1463 (wrap64 (x112_3 - 1))).f1) ((rd_T39 t1463 (wrap64 (x112_3 - 1))).f2)).bind fun bt1505 => (if bt1499.2 = true then (if bt1501.2 = true then (if bt1505.2 = true then (if bt1505.1 ≤ 0 then (some false) else (if (wrap64 (bt1499.1 - bt1501.1)) = bt1505.1 then (laws_FnGiftPathsExist.l0 k3 t1457 t1458 t1463 t1477 t1477 (t1477.length : Int) (wrap64 (x112_3 + 1))) else (some false))) else (some false)) else (some false)) else (some false))) else (none)))) else (none)) else (none))) else (some false)) = some r := H
                       have A46 := zad A460; clear A460; by_cases c47 : t1497 = true
                       · subst c47
                         have H1 : (if x112_3 = 0 then (laws_FnGiftPathsExist.l0 k3 t1457 t1458 t1463 t1477 t1477 (t1477.length : Int) (wrap64 (x112_3 + 1))) else (if 0 ≤ (wrap64 (x112_3 - 1)) then (if (wrap64 (x112_3 - 1)) < (t1477.length : Int) then ((impl_SquareSum.f k3 (rd_L2 t1477 (wrap64 (x112_3 - 1)))).bind fun bt1499 => ((impl_SquareSum.f k3 (rd_L2 t1477 x112_3)).bind fun bt1501 => (if (wrap64 (x112_3 - 1)) < (t1463.length : Int) then ((impl_SquaresFall.f k3 (rd_L2 t1477 (wrap64 (x112_3 - 1))) ((rd_T39 t1463 (wrap64 (x112_3 - 1))).f0) ((rd_T39 t1463 (wrap64 (x112_3 - 1))).f1) ((rd_T39 t1463 (wrap64 (x112_3 - 1))).f2)).bind fun bt1505 => (if bt1499.2 = true then (if bt1501.2 = true then (if bt1505.2 = true then (if bt1505.1 ≤ 0 then (some false) else (if (wrap64 (bt1499.1 - bt1501.1)) = bt1505.1 then (laws_FnGiftPathsExist.l0 k3 t1457 t1458 t1463 t1477 t1477 (t1477.length : Int) (wrap64 (x112_3 + 1))) else (some false))) else (some false)) else (some false)) else (some false))) else (none)))) else (none)) else (none))) = some r := by rw [if_pos rfl] at H; exact H
                         clear H; have H := H1; clear H1; by_cases c48 : x112_3 = 0
                         · rw [if_pos c48] at H
                           have c48b0 : (x112_3 == 0) = true := beq_iff_eq.mpr c48
                           have c48b1 : (x112_3 != 0) = false := bne_eq_false_iff_eq.mpr c48
                           clear c48; have H' := zad H
                           clear H; have p1481 : 0 ≤ (x112_3 : Int) := zas (taaa)
                           have q1481 : x112_3 < (t1477.length : Int) := zas (taaa)
                           obtain ⟨ad1481, A1481_0, c1481_0, e1481, hx1481_0, hl1481_0, hi1481_0⟩ := at_L2 (Kd.S_reads' HO_110.out).2.2 x112_3 p1481 q1481
                           cases e1481
                           obtain ⟨ce1481, hce1481, hMe1481, hcc1481⟩ := Kd.S_get HO_110.out [] x112_3 p1481 (tafk)
                           obtain ⟨ve1481_0, rfl, ge1481_0⟩ := hMe1481
                           have hv1481_0 := hcc1481 0 _ rfl
                           rw [Nat.add_zero, show ((Kd.slice 3 (Kd.int .i64))).sz = 1 from rfl, Nat.mul_one] at hv1481_0
                           replace hv1481_0 := zbe (hv1481_0.symm.trans hx1481_0)
                           rw [hv1481_0] at ge1481_0
                           have HL1481_0 := zad (show Kd.R (Kd.int .i64) 3 _ _ _ _ (rd_L2 t1477 x112_3) from ge1481_0)
                           clear hv1481_0 ge1481_0 hcc1481 hce1481; have HR1481_0 := zad hi1481_0; have HC1481_0 := zad hl1481_0; clear hi1481_0 hl1481_0; replace p1481 := eq_true p1481
                           replace q1481 := eq_true q1481
                           go_wp2_with (first | ((with_reducible refine zbh (f := 22) rfl ?_); refine zbp (some 119) rfl rfl Try.func22 (by kernel_rfl) rfl #[.slice Ao10 t1457.length co10, .slice A1481_0 (rd_L2 t1477 x112_3).length c1481_0] rfl (taad) ?_; (with_reducible refine (laws_pBelow.calls k3 _ _ t1457 _ _ (rd_L2 t1477 x112_3) true _ ?side1 ?side2 ?side3 ?side4 A44.out).mono ?_); (case side1 => repeat (first | exact (zbf HO_5.out).2.2 | (with_reducible refine zal ?_ _) | (with_reducible refine zam ?_ _) | (with_reducible refine zan ?_))); (case side2 => exact (zbf HO_5.out).2.1); (case side3 => repeat (first | exact (taal) | (with_reducible refine zal ?_ _) | (with_reducible refine zam ?_ _) | (with_reducible refine zan ?_))); (case side4 => exact HC1481_0.out); rintro e w49 ⟨rfl, hb⟩; refine ⟨_, rfl, ?_⟩; have n0_ := zad (zbv (taak) hb); have n1_ := zad (zbv (taai) hb); have n2_ := zad (zbv (taah) hb); have n3_ := zad (Kd.S_below (taao) hb); have n4_ := zad (Kd.S_below (taap) hb); have n5_ := zad (zbv (taat) hb); have n6_ := zad (Kd.C_below (taal) hb); have n7_ := zad (zbg (taab) hb); clear HO_5 HO_6 HO_7 HO_15 HO_110 HL1481_0 HR1481_0 HB; have HO_5 := n0_; have HO_6 := n1_; have HO_7 := n2_; have HO_15 := n3_; have HO_110 := n4_; have HL1481_0 := n5_; have HR1481_0 := n6_; have HB := n7_; clear n0_ n1_ n2_ n3_ n4_ n5_ n6_ n7_; (try clear hb); (try clear hb2); (try clear hk); (try clear hi)) | (go_at_call 22; (with_reducible refine (laws_pBelow.calls k3 _ _ (rd_L2 t1477 x112_3) _ _ t1458 true _ ?side1 ?side2 ?side3 ?side4 A46.out).mono ?_); (case side1 => repeat (first | exact (taal) | (with_reducible refine zal ?_ _) | (with_reducible refine zam ?_ _) | (with_reducible refine zan ?_))); (case side2 => exact HC1481_0.out); (case side3 => repeat (first | exact (zbf HO_6.out).2.2 | (with_reducible refine zal ?_ _) | (with_reducible refine zam ?_ _) | (with_reducible refine zan ?_))); (case side4 => exact (zbf HO_6.out).2.1); rintro e w50 ⟨rfl, hb⟩; have n0_ := zad (zbv (taak) hb); have n1_ := zad (zbv (taai) hb); have n2_ := zad (zbv (taah) hb); have n3_ := zad (Kd.S_below (taao) hb); have n4_ := zad (Kd.S_below (taap) hb); have n5_ := zad (zbv (taat) hb); have n6_ := zad (Kd.C_below (taal) hb); have n7_ := zad (zbg (taab) hb); clear HO_5 HO_6 HO_7 HO_15 HO_110 HL1481_0 HR1481_0 HB; have HO_5 := n0_; have HO_6 := n1_; have HO_7 := n2_; have HO_15 := n3_; have HO_110 := n4_; have HL1481_0 := n5_; have HR1481_0 := n6_; have HB := n7_; clear n0_ n1_ n2_ n3_ n4_ n5_ n6_ n7_; (try clear hb); (try clear hb2); (try clear hk); (try clear hi)))
                           go_roundg k3
                           case measure => have := HJ7.out; have := HJ27.out; have := HK3.out; omega
                           case rel => exact ⟨(wrap64 (x112_3 + 1)), (taag), H', ⟨by have := HJ7.out; have := HJ27.out; have := HK3.out; omega⟩, ⟨taak⟩, ⟨taai⟩, ⟨taah⟩, ⟨taao⟩, ⟨taap⟩, ⟨taab⟩⟩
                         · rw [if_neg c48] at H
                           have c48b0 : (x112_3 == 0) = false := zbq.mpr c48
                           have c48b1 : (x112_3 != 0) = true := bne_iff_ne.mpr c48
                           obtain ⟨ji51, hji51⟩ : ∃ j_ : Int, (wrap64 (x112_3 - 1)) = j_ := ⟨_, rfl⟩
                           replace H : (if 0 ≤ (ji51) then (if (ji51) < (t1477.length : Int) then ((impl_SquareSum.f k3 (rd_L2 t1477 (ji51))).bind fun bt1499 => ((impl_SquareSum.f k3 (rd_L2 t1477 x112_3)).bind fun bt1501 => (if (ji51) < (t1463.length : Int) then ((impl_SquaresFall.f k3 (rd_L2 t1477 (ji51)) ((rd_T39 t1463 (ji51)).f0) ((rd_T39 t1463 (ji51)).f1) ((rd_T39 t1463 (ji51)).f2)).bind fun bt1505 => (if bt1499.2 = true then (if bt1501.2 = true then (if bt1505.2 = true then (if bt1505.1 ≤ 0 then (some false) else (if (wrap64 (bt1499.1 - bt1501.1)) = bt1505.1 then (laws_FnGiftPathsExist.l0 k3 t1457 t1458 t1463 t1477 t1477 (t1477.length : Int) (wrap64 (x112_3 + 1))) else (some false))) else (some false)) else (some false)) else (some false))) else (none)))) else (none)) else (none)) = some r := by first | (rw [hji51] at H; exact H) | (simp only [hji51] at H ⊢; exact H)
                           (try rw [hji51] at A44)
                           (try rw [hji51] at A46)
                           have hji51w : (IntKind.i64.wrap (x112_3 - 1)) = ji51 := (zby _).trans hji51
                           by_cases c52 : 0 ≤ (ji51)
                           · rw [if_pos c52] at H
                             have c52b0 : decide (0 ≤ (ji51)) = true := zba c52
                             clear c52; by_cases c53 : (ji51) < (t1477.length : Int)
                             · rw [if_pos c53] at H
                               have c53b0 : decide ((ji51) < (t1477.length : Int)) = true := zba c53
                               clear c53; replace H := zay.mp H; obtain ⟨⟨t1499, t1500⟩, A540, H⟩ := H
                               replace H : ((impl_SquareSum.f k3 (rd_L2 t1477 x112_3)).bind fun bt1501 => (if (ji51) < (t1463.length : Int) then ((impl_SquaresFall.f k3 (rd_L2 t1477 (ji51)) ((rd_T39 t1463 (ji51)).f0) ((rd_T39 t1463 (ji51)).f1) ((rd_T39 t1463 (ji51)).f2)).bind fun bt1505 => (if t1500 = true then (if bt1501.2 = true then (if bt1505.2 = true then (if bt1505.1 ≤ 0 then (some false) else (if (wrap64 (t1499 - bt1501.1)) = bt1505.1 then (laws_FnGiftPathsExist.l0 k3 t1457 t1458 t1463 t1477 t1477 (t1477.length : Int) (wrap64 (x112_3 + 1))) else (some false))) else (some false)) else (some false)) else (some false))) else (none))) = some r := H
                               have A54 := zad A540; clear A540; replace H := zay.mp H; obtain ⟨⟨t1501, t1502⟩, A550, H⟩ := H
                               replace H : (if (ji51) < (t1463.length : Int) then ((impl_SquaresFall.f k3 (rd_L2 t1477 (ji51)) ((rd_T39 t1463 (ji51)).f0) ((rd_T39 t1463 (ji51)).f1) ((rd_T39 t1463 (ji51)).f2)).bind fun bt1505 => (if t1500 = true then (if t1502 = true then (if bt1505.2 = true then (if bt1505.1 ≤ 0 then (some false) else (if (wrap64 (t1499 - t1501)) = bt1505.1 then (laws_FnGiftPathsExist.l0 k3 t1457 t1458 t1463 t1477 t1477 (t1477.length : Int) (wrap64 (x112_3 + 1))) else (some false))) else (some false)) else (some false)) else (some false))) else (none)) = some r := H
                               have A55 := zad A550; clear A550; by_cases c56 : (ji51) < (t1463.length : Int)
                               · rw [if_pos c56] at H
                                 have c56b0 : decide ((ji51) < (t1463.length : Int)) = true := zba c56
                                 clear c56; replace H := zay.mp H; obtain ⟨⟨t1505, t1506⟩, A570, H⟩ := H
                                 replace H : (if t1500 = true then (if t1502 = true then (if t1506 = true then (if t1505 ≤ 0 then (some false) else (if (wrap64 (t1499 - t1501)) = t1505 then (laws_FnGiftPathsExist.l0 k3 t1457 t1458 t1463 t1477 t1477 (t1477.length : Int) (wrap64 (x112_3 + 1))) else (some false))) else (some false)) else (some false)) else (some false)) = some r := H
                                 have A57 := zad A570; clear A570; by_cases c58 : t1500 = true
                                 · subst c58
                                   have H1 : (if t1502 = true then (if t1506 = true then (if t1505 ≤ 0 then (some false) else (if (wrap64 (t1499 - t1501)) = t1505 then (laws_FnGiftPathsExist.l0 k3 t1457 t1458 t1463 t1477 t1477 (t1477.length : Int) (wrap64 (x112_3 + 1))) else (some false))) else (some false)) else (some false)) = some r := by rw [if_pos rfl] at H; exact H
                                   clear H; have H := H1; clear H1; by_cases c59 : t1502 = true
                                   · subst c59
                                     have H1 : (if t1506 = true then (if t1505 ≤ 0 then (some false) else (if (wrap64 (t1499 - t1501)) = t1505 then (laws_FnGiftPathsExist.l0 k3 t1457 t1458 t1463 t1477 t1477 (t1477.length : Int) (wrap64 (x112_3 + 1))) else (some false))) else (some false)) = some r := by rw [if_pos rfl] at H; exact H
                                     clear H; have H := H1; clear H1; by_cases c60 : t1506 = true
                                     · subst c60
                                       have H1 : (if t1505 ≤ 0 then (some false) else (if (wrap64 (t1499 - t1501)) = t1505 then (laws_FnGiftPathsExist.l0 k3 t1457 t1458 t1463 t1477 t1477 (t1477.length : Int) (wrap64 (x112_3 + 1))) else (some false))) = some r := by rw [if_pos rfl] at H; exact H
                                       clear H; have H := H1; clear H1; by_cases c61 : t1505 ≤ 0
                                       · rw [if_pos c61] at H
                                         have c61b0 : decide (t1505 ≤ 0) = true := zba c61
                                         clear c61; obtain rfl := zbe H
                                         have p1481 : 0 ≤ (x112_3 : Int) := zas (taaa)
                                         have q1481 : x112_3 < (t1477.length : Int) := zas (taaa)
                                         obtain ⟨ad1481, A1481_0, c1481_0, e1481, hx1481_0, hl1481_0, hi1481_0⟩ := at_L2 (Kd.S_reads' HO_110.out).2.2 x112_3 p1481 q1481
                                         cases e1481
                                         obtain ⟨ce1481, hce1481, hMe1481, hcc1481⟩ := Kd.S_get HO_110.out [] x112_3 p1481 (tafk)
                                         obtain ⟨ve1481_0, rfl, ge1481_0⟩ := hMe1481
                                         have hv1481_0 := hcc1481 0 _ rfl
                                         rw [Nat.add_zero, show ((Kd.slice 3 (Kd.int .i64))).sz = 1 from rfl, Nat.mul_one] at hv1481_0
                                         replace hv1481_0 := zbe (hv1481_0.symm.trans hx1481_0)
                                         rw [hv1481_0] at ge1481_0
                                         have HL1481_0 := zad (show Kd.R (Kd.int .i64) 3 _ _ _ _ (rd_L2 t1477 x112_3) from ge1481_0)
                                         clear hv1481_0 ge1481_0 hcc1481 hce1481; have HR1481_0 := zad hi1481_0; have HC1481_0 := zad hl1481_0; clear hi1481_0 hl1481_0; replace p1481 := eq_true p1481
                                         replace q1481 := eq_true q1481
                                         try go_wp2_with (first | ((with_reducible refine zbh (f := 22) rfl ?_); refine zbp (some 119) rfl rfl Try.func22 (by kernel_rfl) rfl #[.slice Ao10 t1457.length co10, .slice A1481_0 (rd_L2 t1477 x112_3).length c1481_0] rfl (taad) ?_; (with_reducible refine (laws_pBelow.calls k3 _ _ t1457 _ _ (rd_L2 t1477 x112_3) true _ ?side1 ?side2 ?side3 ?side4 A44.out).mono ?_); (case side1 => repeat (first | exact (zbf HO_5.out).2.2 | (with_reducible refine zal ?_ _) | (with_reducible refine zam ?_ _) | (with_reducible refine zan ?_))); (case side2 => exact (zbf HO_5.out).2.1); (case side3 => repeat (first | exact (taal) | (with_reducible refine zal ?_ _) | (with_reducible refine zam ?_ _) | (with_reducible refine zan ?_))); (case side4 => exact HC1481_0.out); rintro e w62 ⟨rfl, hb⟩; refine ⟨_, rfl, ?_⟩; have n0_ := zad (zbv (taak) hb); have n1_ := zad (zbv (taai) hb); have n2_ := zad (zbv (taah) hb); have n3_ := zad (Kd.S_below (taao) hb); have n4_ := zad (Kd.S_below (taap) hb); have n5_ := zad (zbv (taat) hb); have n6_ := zad (Kd.C_below (taal) hb); have n7_ := zad (zbg (taab) hb); clear HO_5 HO_6 HO_7 HO_15 HO_110 HL1481_0 HR1481_0 HB; have HO_5 := n0_; have HO_6 := n1_; have HO_7 := n2_; have HO_15 := n3_; have HO_110 := n4_; have HL1481_0 := n5_; have HR1481_0 := n6_; have HB := n7_; clear n0_ n1_ n2_ n3_ n4_ n5_ n6_ n7_; (try clear hb); (try clear hb2); (try clear hk); (try clear hi)) | (go_at_call 22; (with_reducible refine (laws_pBelow.calls k3 _ _ (rd_L2 t1477 x112_3) _ _ t1458 true _ ?side1 ?side2 ?side3 ?side4 A46.out).mono ?_); (case side1 => repeat (first | exact (taal) | (with_reducible refine zal ?_ _) | (with_reducible refine zam ?_ _) | (with_reducible refine zan ?_))); (case side2 => exact HC1481_0.out); (case side3 => repeat (first | exact (zbf HO_6.out).2.2 | (with_reducible refine zal ?_ _) | (with_reducible refine zam ?_ _) | (with_reducible refine zan ?_))); (case side4 => exact (zbf HO_6.out).2.1); rintro e w63 ⟨rfl, hb⟩; have n0_ := zad (zbv (taak) hb); have n1_ := zad (zbv (taai) hb); have n2_ := zad (zbv (taah) hb); have n3_ := zad (Kd.S_below (taao) hb); have n4_ := zad (Kd.S_below (taap) hb); have n5_ := zad (zbv (taat) hb); have n6_ := zad (Kd.C_below (taal) hb); have n7_ := zad (zbg (taab) hb); clear HO_5 HO_6 HO_7 HO_15 HO_110 HL1481_0 HR1481_0 HB; have HO_5 := n0_; have HO_6 := n1_; have HO_7 := n2_; have HO_15 := n3_; have HO_110 := n4_; have HL1481_0 := n5_; have HR1481_0 := n6_; have HB := n7_; clear n0_ n1_ n2_ n3_ n4_ n5_ n6_ n7_; (try clear hb); (try clear hb2); (try clear hk); (try clear hi); have p1498 : 0 ≤ ((ji51) : Int) := zas (taaa); have q1498 : (ji51) < (t1477.length : Int) := zas (taaa); obtain ⟨ad1498, A1498_0, c1498_0, e1498, hx1498_0, hl1498_0, hi1498_0⟩ := at_L2 (Kd.S_reads' HO_15.out).2.2 (ji51) p1498 q1498; obtain rfl : ad1481 = ad1498 := (by injection e1498); obtain ⟨ce1498, hce1498, hMe1498, hcc1498⟩ := Kd.S_get HO_15.out [] (ji51) p1498 (tafn); obtain ⟨ve1498_0, rfl, ge1498_0⟩ := hMe1498; have hv1498_0 := hcc1498 0 _ rfl; rw [Nat.add_zero, show ((Kd.slice 3 (Kd.int .i64))).sz = 1 from rfl, Nat.mul_one] at hv1498_0; replace hv1498_0 := zbe (hv1498_0.symm.trans hx1498_0); rw [hv1498_0] at ge1498_0; have HL1498_0 := zad (show Kd.R (Kd.int .i64) 3 _ _ _ _ (rd_L2 t1477 (ji51)) from ge1498_0); clear hv1498_0 ge1498_0 hcc1498 hce1498; have HR1498_0 := zad hi1498_0; have HC1498_0 := zad hl1498_0; clear hi1498_0 hl1498_0; replace p1498 := eq_true p1498; replace q1498 := eq_true q1498) | ((with_reducible refine zbh (f := 36) rfl ?_); refine zbp (some 135) rfl rfl Try.func36 (by kernel_rfl) rfl #[.slice A1498_0 (rd_L2 t1477 (ji51)).length c1498_0] rfl (tabb) ?_; (with_reducible refine (impl_SquareSum.calls k3 _ _ (rd_L2 t1477 (ji51)) t1499 true _ ?side1 ?side2 A54.out).mono ?_); (case side1 => repeat (first | exact (taav) | (with_reducible refine zal ?_ _) | (with_reducible refine zam ?_ _) | (with_reducible refine zan ?_))); (case side2 => exact HC1498_0.out); rintro e w' ⟨rfl, ⟨nd, rfl⟩⟩; refine ⟨_, rfl, ?_⟩) | ((with_reducible refine zbh (f := 36) rfl ?_); refine zbp (some 140) rfl rfl Try.func36 (by kernel_rfl) rfl #[.slice A1481_0 (rd_L2 t1477 x112_3).length c1481_0] rfl (taad) ?_; (with_reducible refine (impl_SquareSum.calls k3 _ _ (rd_L2 t1477 x112_3) t1501 true _ ?side1 ?side2 A55.out).mono ?_); (case side1 => repeat (first | exact (taal) | (with_reducible refine zal ?_ _) | (with_reducible refine zam ?_ _) | (with_reducible refine zan ?_))); (case side2 => exact HC1481_0.out); rintro e w' ⟨rfl, ⟨nd, rfl⟩⟩; refine ⟨_, rfl, ?_⟩))
                                         (try (rw [drewN_self w63]; generalize hq_ : World.drewN w63 _ = w63; have n0_ : Aside0 (Kd.R (Kd.int .i64) 3 w63 w.heap.size (fun k_ => some k_ ≠ (.slice (some ad1481) t1477.length co40 : Value).ownBlock ∧ some k_ ≠ (.slice Ao10 t1457.length co10 : Value).ownBlock ∧ some k_ ≠ (.slice Ao11 t1458.length co11 : Value).ownBlock) (.slice A1481_0 (rd_L2 t1477 x112_3).length c1481_0) (rd_L2 t1477 x112_3)) := ⟨tafo⟩; have n1_ : Aside0 (Kd.R (Kd.int .i64) 3 w63 w.heap.size (fun k_ => some k_ ≠ (.slice (some ad1481) t1477.length co40 : Value).ownBlock ∧ some k_ ≠ (.slice Ao10 t1457.length co10 : Value).ownBlock ∧ some k_ ≠ (.slice Ao11 t1458.length co11 : Value).ownBlock) (.slice A1498_0 (rd_L2 t1477 (ji51)).length c1498_0) (rd_L2 t1477 (ji51))) := ⟨tafp⟩; have n2_ : Aside0 (Kd.S (Kd.slice 3 (Kd.int .i64)) 26 w63 w.heap.size (fun k_ => some k_ ≠ (.slice Ao10 t1457.length co10 : Value).ownBlock ∧ some k_ ≠ (.slice Ao11 t1458.length co11 : Value).ownBlock) (.slice (some ad1481) t1477.length co40) t1477) := ⟨tafq⟩; have n3_ : Aside0 (Kd.S (Kd.slice 3 (Kd.int .i64)) 26 w63 w.heap.size (fun k_ => some k_ ≠ (.slice Ao10 t1457.length co10 : Value).ownBlock ∧ some k_ ≠ (.slice Ao11 t1458.length co11 : Value).ownBlock) (.slice (some ad1481) t1477.length co40) t1477) := ⟨tafr⟩; have n4_ : Aside0 (Kd.R (Kd.int .i64) 3 w63 w.heap.size (fun k_ => some k_ ≠ (.slice Ao11 t1458.length co11 : Value).ownBlock) (.slice Ao10 t1457.length co10) t1457) := ⟨tafs⟩; have n5_ : Aside0 (Kd.R (Kd.int .i64) 3 w63 w.heap.size (fun k_ => some k_ ≠ (.slice Ao10 t1457.length co10 : Value).ownBlock) (.slice Ao11 t1458.length co11) t1458) := ⟨taft⟩; have n6_ : Aside0 (Kd.R k39 39 w63 w.heap.size (fun _ => True) (.slice Ao30 t1463.length co30) t1463) := ⟨tafl⟩; have n7_ : Aside0 (Below w.heap.size w w63) := ⟨tafm⟩; have n8_ : Aside0 (Kd.C (Kd.int .i64) w63 A1481_0 (rd_L2 t1477 x112_3).length (rd_L2 t1477 x112_3)) := ⟨tafu⟩; have n9_ : Aside0 (Kd.C (Kd.int .i64) w63 A1498_0 (rd_L2 t1477 (ji51)).length (rd_L2 t1477 (ji51))) := ⟨tafv⟩; clear HL1481_0 HL1498_0 HO_110 HO_15 HO_5 HO_6 HO_7 HB HR1481_0 HR1498_0 hq_; have HL1481_0 := n0_; have HL1498_0 := n1_; have HO_110 := n2_; have HO_15 := n3_; have HO_5 := n4_; have HO_6 := n5_; have HO_7 := n6_; have HB := n7_; have HR1481_0 := n8_; have HR1498_0 := n9_; clear n0_ n1_ n2_ n3_ n4_ n5_ n6_ n7_ n8_ n9_))
                                         have n0_ := zad (zak HO_5.out)
                                         have n1_ := zad (zak HO_6.out)
                                         have n2_ := zad (zak HO_7.out)
                                         have n3_ := zad (Kd.S_drew HO_15.out)
                                         have n4_ := zad (Kd.S_drew HO_110.out)
                                         have n5_ := zad (zak HL1481_0.out)
                                         have n6_ := zad (zak HL1498_0.out)
                                         have n7_ := zad (zan HR1481_0.out)
                                         have n8_ := zad (zan HR1498_0.out)
                                         have n9_ := zad (zaf HB.out)
                                         clear HO_5 HO_6 HO_7 HO_15 HO_110 HL1481_0 HL1498_0 HR1481_0 HR1498_0 HB; have HO_5 := n0_; have HO_6 := n1_; have HO_7 := n2_; have HO_15 := n3_; have HO_110 := n4_; have HL1481_0 := n5_; have HL1498_0 := n6_; have HR1481_0 := n7_; have HR1498_0 := n8_; have HB := n9_; clear n0_ n1_ n2_ n3_ n4_ n5_ n6_ n7_ n8_ n9_; have p1503 : 0 ≤ ((ji51) : Int) := zas (taaa)
                                         have q1503 : (ji51) < (t1477.length : Int) := zas (taaa)
                                         obtain ⟨ad1503, A1503_0, c1503_0, e1503, hx1503_0, hl1503_0, hi1503_0⟩ := at_L2 (Kd.S_reads' HO_15.out).2.2 (ji51) p1503 q1503
                                         obtain rfl : ad1481 = ad1503 := (by injection e1503)
                                         obtain ⟨ce1503, hce1503, hMe1503, hcc1503⟩ := Kd.S_get HO_15.out [] (ji51) p1503 (tafw)
                                         obtain ⟨ve1503_0, rfl, ge1503_0⟩ := hMe1503
                                         have hv1503_0 := hcc1503 0 _ rfl
                                         rw [Nat.add_zero, show ((Kd.slice 3 (Kd.int .i64))).sz = 1 from rfl, Nat.mul_one] at hv1503_0
                                         replace hv1503_0 := zbe (hv1503_0.symm.trans hx1503_0)
                                         rw [hv1503_0] at ge1503_0
                                         have HL1503_0 := zad (show Kd.R (Kd.int .i64) 3 _ _ _ _ (rd_L2 t1477 (ji51)) from ge1503_0)
                                         clear hv1503_0 ge1503_0 hcc1503 hce1503; have HR1503_0 := zad hi1503_0; have HC1503_0 := zad hl1503_0; clear hi1503_0 hl1503_0; replace p1503 := eq_true p1503
                                         replace q1503 := eq_true q1503
                                         have p1504 : 0 ≤ ((ji51) : Int) := zas (taaa)
                                         have q1504 : (ji51) < (t1463.length : Int) := zas (taaa)
                                         obtain ⟨ad1504, e1504, hx1504_0, hx1504_1, hx1504_2⟩ := at_T39 (zbf HO_7.out).2.2 (ji51) p1504 q1504
                                         cases e1504
                                         replace p1504 := eq_true p1504
                                         replace q1504 := eq_true q1504
                                         refine start_ (n := 16) (S := fun w' => w'.cell? (ad1481.add ((ji51)).toNat) = some (.slice A1503_0 (rd_L2 t1477 (ji51)).length c1503_0) ∧ w'.cell? (ad1504.add (((ji51)).toNat * 3)) = some (.int .i64 ((rd_T39 t1463 (ji51)).f0)) ∧ w'.cell? ⟨(ad1504.add (((ji51)).toNat * 3)).block, (ad1504.add (((ji51)).toNat * 3)).off + 1, none⟩ = some (.int .i64 ((rd_T39 t1463 (ji51)).f1)) ∧ w'.cell? ⟨(ad1504.add (((ji51)).toNat * 3)).block, (ad1504.add (((ji51)).toNat * 3)).off + 2, none⟩ = some (.int .i64 ((rd_T39 t1463 (ji51)).f2))) (ds := []) #[false, false, false, false, false, false, false, false, false, false, false, false, false, false, false, false] (by kernel_rfl) rfl rfl ⟨hx1503_0, hx1504_0, hx1504_1, hx1504_2⟩ (fun hHeld => ?_); refine with_tabW laws_FnGiftPathsExist.tab23 laws_FnGiftPathsExist.bits23 (fun HT_ HW_ => ?_)
                                         generalize w63.drew = w64 at HO_5 HO_6 HO_7 HO_15 HO_110 HL1481_0 HL1498_0 HR1481_0 HR1498_0 HB HL1503_0 HR1503_0 hx1503_0 hx1504_0 hx1504_1 hx1504_2 hHeld ⊢
                                         refine pure_ (i := 0) (N := some 144) (v := ?_) (a' := ?_) tajh rfl rfl (zca HT_.out (by kernel_rfl)) (fun _ _ _ h => h) (Or.inl ⟨by rfl, ?_⟩) ?_ ?_
                                         rotate_left
                                         · intro w'
                                           go_simp; with_reducible rfl
                                         rotate_left
                                         · simp only [Act.put, zaa, zab, zac, zby, zbz]
                                           rfl
                                         refine pure_ (i := 1) (N := some 145) (v := ?_) (a' := ?_) taji rfl rfl (zca HT_.out (by kernel_rfl)) (fun _ _ _ h => h) (Or.inl ⟨by rfl, ?_⟩) ?_ ?_
                                         rotate_left
                                         · intro w'
                                           go_simp; with_reducible rfl
                                         rotate_left
                                         · simp only [Act.put, zaa, zab, zac, zby, zbz]
                                           rfl
                                         refine pure_ (i := 2) (N := some 146) (v := ?_) (a' := ?_) tajj rfl rfl (zca HT_.out (by kernel_rfl)) (fun _ _ _ h => h) (Or.inl ⟨by rfl, ?_⟩) ?_ ?_
                                         rotate_left
                                         · intro w'
                                           go_simp; with_reducible rfl
                                         rotate_left
                                         · simp only [Act.put, zaa, zab, zac, zby, zbz]
                                           rfl
                                         refine pure_ (i := 3) (N := some 147) (v := ?_) (a' := ?_) tajk rfl rfl (zca HT_.out (by kernel_rfl)) (fun _ _ _ h => h) (Or.inl ⟨by rfl, ?_⟩) ?_ ?_
                                         rotate_left
                                         · intro w'
                                           go_simp; with_reducible rfl
                                         rotate_left
                                         · simp only [Act.put, zaa, zab, zac, zby, zbz]
                                           rfl
                                         refine pure_ (i := 5) (N := some 149) (v := ?_) (a' := ?_) tajl rfl rfl (zca HT_.out (by kernel_rfl)) (fun _ _ _ h => h) (Or.inl ⟨by rfl, ?_⟩) ?_ ?_
                                         rotate_left
                                         · intro w'
                                           go_simp; with_reducible rfl
                                         rotate_left
                                         · simp only [Act.put, zaa, zab, zac, zby, zbz]
                                           rfl
                                         refine pure_ (i := 6) (N := some 150) (v := ?_) (a' := ?_) tajm rfl rfl (zca HT_.out (by kernel_rfl)) (fun _ _ _ h => h) (Or.inl ⟨by rfl, ?_⟩) ?_ ?_
                                         rotate_left
                                         · intro w'
                                           go_simp; with_reducible rfl
                                         rotate_left
                                         · simp only [Act.put, zaa, zab, zac, zby, zbz]
                                           rfl
                                         refine pure_ (i := 7) (N := some 151) (v := ?_) (a' := ?_) tajn rfl rfl (zca HT_.out (by kernel_rfl)) (fun _ _ _ h => h) (Or.inl ⟨by rfl, ?_⟩) ?_ ?_
                                         rotate_left
                                         · intro w'
                                           go_simp; with_reducible rfl
                                         rotate_left
                                         · simp only [Act.put, zaa, zab, zac, zby, zbz]
                                           rfl
                                         refine pure_ (i := 8) (N := some 152) (v := ?_) (a' := ?_) tajo rfl rfl (zca HT_.out (by kernel_rfl)) (fun _ _ _ h => h) (Or.inl ⟨by rfl, ?_⟩) ?_ ?_
                                         rotate_left
                                         · intro w'
                                           go_simp; with_reducible rfl
                                         rotate_left
                                         · simp only [Act.put, zaa, zab, zac, zby, zbz]
                                           rfl
                                         refine take_ (i := 4) (N := some 148) (v := ?_) (a' := ?_) tajp rfl rfl (zcb HT_.out HW_.out (by kernel_rfl)) (fun _ _ _ h => h) (Or.inl ⟨by rfl, ?_⟩) hHeld ?_ ?_
                                         rotate_left
                                         · rintro w' ⟨s0, s1, s2, s3⟩
                                           go_simp; with_reducible rfl
                                         rotate_left
                                         · simp only [Act.put, zaa, zab, zac, zby, zbz]
                                           rfl
                                         refine take_ (i := 9) (N := some 153) (v := ?_) (a' := ?_) tajq rfl rfl (zcb HT_.out HW_.out (by kernel_rfl)) (fun _ _ _ h => h) (Or.inl ⟨by rfl, ?_⟩) hHeld ?_ ?_
                                         rotate_left
                                         · rintro w' ⟨s0, s1, s2, s3⟩
                                           go_simp; with_reducible rfl
                                         rotate_left
                                         · simp only [Act.put, zaa, zab, zac, zby, zbz]
                                           rfl
                                         refine one_ (i := 10) (N := some 154) #[true, true, true, true, true, true, true, true, true, true, true, false, false, false, false, false] rfl rfl (one_of HT_.out (by kernel_rfl)) (by decide) (fun K hK => ?_)
                                         refine goes_ Try.func28 (by kernel_rfl) rfl #[.slice A1503_0 (rd_L2 t1477 (ji51)).length c1503_0, .agg #[.int .i64 ((rd_T39 t1463 (ji51)).f0), .int .i64 ((rd_T39 t1463 (ji51)).f1), .int .i64 ((rd_T39 t1463 (ji51)).f2)]] (by rfl) rfl rfl (tabb) ?_
                                         with_reducible refine (impl_SquaresFall.calls k3 _ _ (rd_L2 t1477 (ji51)) ((rd_T39 t1463 (ji51)).f0) ((rd_T39 t1463 (ji51)).f1) ((rd_T39 t1463 (ji51)).f2) t1505 true _ ?side1 ?side2 A57.out).mono ?_
                                         (case side1 => exact tagf)
                                         (case side2 => exact HC1503_0.out)
                                         rintro e w65 ⟨rfl, hb⟩
                                         have HS0_ := (hb.cell (zaz _ _ (hHeld.1))).trans (hHeld.1)
                                         have HS1_ := (hb.cell (zaz _ _ (hHeld.2.1))).trans (hHeld.2.1)
                                         have HS2_ := (hb.cell (zaz _ _ (hHeld.2.2.1))).trans (hHeld.2.2.1)
                                         have HS3_ := (hb.cell (zaz _ _ (hHeld.2.2.2))).trans (hHeld.2.2.2)
                                         refine ⟨_, rfl, ?_⟩
                                         have n0_ := zad (zbv (taak) hb)
                                         have n1_ := zad (zbv (taai) hb)
                                         have n2_ := zad (zbv (taah) hb)
                                         have n3_ := zad (Kd.S_below (taao) hb)
                                         have n4_ := zad (Kd.S_below (taap) hb)
                                         have n5_ := zad (zbv (taat) hb)
                                         have n6_ := zad (zbv (tabz) hb)
                                         have n7_ := zad (zbv (taca) hb)
                                         have n8_ := zad (Kd.C_below (taal) hb)
                                         have n9_ := zad (Kd.C_below (taav) hb)
                                         have n10_ := zad (Kd.C_below (tabc) hb)
                                         have n11_ := zad (zbg (taab) hb)
                                         clear HO_5 HO_6 HO_7 HO_15 HO_110 HL1481_0 HL1498_0 HL1503_0 HR1481_0 HR1498_0 HR1503_0 HB; have HO_5 := n0_; have HO_6 := n1_; have HO_7 := n2_; have HO_15 := n3_; have HO_110 := n4_; have HL1481_0 := n5_; have HL1498_0 := n6_; have HL1503_0 := n7_; have HR1481_0 := n8_; have HR1498_0 := n9_; have HR1503_0 := n10_; have HB := n11_; clear n0_ n1_ n2_ n3_ n4_ n5_ n6_ n7_ n8_ n9_ n10_ n11_; (try clear hb); (try clear hb2); (try clear hk); (try clear hi); refine hK.out _ _ ⟨HS0_, HS1_, HS2_, HS3_⟩ (fun hHeld => ?_)
                                         clear hK K; refine norm_ (a' := ?_) ?_ ?_
                                         rotate_left
                                         · show Act.put _ (some 154) _ = _
                                           simp only [Act.put, zaa, zab, zac, zby, zbz]
                                           rfl
                                         refine pure_ (i := 11) (N := some 143) (v := ?_) (a' := ?_) tajr rfl rfl (zca HT_.out (by kernel_rfl)) (fun _ _ _ h => h) (Or.inl ⟨by rfl, ?_⟩) ?_ ?_
                                         rotate_left
                                         · intro w'
                                           go_simp; with_reducible rfl
                                         rotate_left
                                         · simp only [Act.put, zaa, zab, zac, zby, zbz]
                                           rfl
                                         refine pure_ (i := 12) (N := some 155) (v := ?_) (a' := ?_) tajs rfl rfl (zca HT_.out (by kernel_rfl)) (fun _ _ _ h => h) (Or.inl ⟨by rfl, ?_⟩) ?_ ?_
                                         rotate_left
                                         · intro w'
                                           go_simp; with_reducible rfl
                                         rotate_left
                                         · simp only [Act.put, zaa, zab, zac, zby, zbz]
                                           rfl
                                         refine pure_ (i := 13) (N := some 156) (v := ?_) (a' := ?_) tajt rfl rfl (zca HT_.out (by kernel_rfl)) (fun _ _ _ h => h) (Or.inl ⟨by rfl, ?_⟩) ?_ ?_
                                         rotate_left
                                         · intro w'
                                           go_simp; with_reducible rfl
                                         rotate_left
                                         · simp only [Act.put, zaa, zab, zac, zby, zbz]
                                           rfl
                                         refine pure_ (i := 14) (N := some 23) (v := ?_) (a' := ?_) taju rfl rfl (zca HT_.out (by kernel_rfl)) (fun _ _ _ h => h) (Or.inl ⟨by rfl, ?_⟩) ?_ ?_
                                         rotate_left
                                         · intro w'
                                           go_simp; with_reducible rfl
                                         rotate_left
                                         · simp only [Act.put, zaa, zab, zac, zby, zbz]
                                           rfl
                                         refine pure_ (i := 15) (N := some 24) (v := ?_) (a' := ?_) tajv rfl rfl (zca HT_.out (by kernel_rfl)) (fun _ _ _ h => h) (Or.inl ⟨by rfl, ?_⟩) ?_ ?_
                                         rotate_left
                                         · intro w'
                                           go_simp; with_reducible rfl
                                         rotate_left
                                         · simp only [Act.put, zaa, zab, zac, zby, zbz]
                                           rfl
                                         refine done_ (done_of HT_.out (by kernel_rfl)) ?_
                                         try go_wp2
                                         go_ret
                                         exact ⟨tacj, taab⟩
                                       · rw [if_neg c61] at H
                                         have c61b0 : decide (t1505 ≤ 0) = false := zbj c61
                                         clear c61; by_cases c66 : (wrap64 (t1499 - t1501)) = t1505
                                         · rw [if_pos c66] at H
                                           have c66b0 : ((wrap64 (t1499 - t1501)) == t1505) = true := beq_iff_eq.mpr c66
                                           have c66b1 : ((wrap64 (t1499 - t1501)) != t1505) = false := bne_eq_false_iff_eq.mpr c66
                                           clear c66; have H' := zad H
                                           clear H; have p1481 : 0 ≤ (x112_3 : Int) := zas (taaa)
                                           have q1481 : x112_3 < (t1477.length : Int) := zas (taaa)
                                           obtain ⟨ad1481, A1481_0, c1481_0, e1481, hx1481_0, hl1481_0, hi1481_0⟩ := at_L2 (Kd.S_reads' HO_110.out).2.2 x112_3 p1481 q1481
                                           cases e1481
                                           obtain ⟨ce1481, hce1481, hMe1481, hcc1481⟩ := Kd.S_get HO_110.out [] x112_3 p1481 (tafk)
                                           obtain ⟨ve1481_0, rfl, ge1481_0⟩ := hMe1481
                                           have hv1481_0 := hcc1481 0 _ rfl
                                           rw [Nat.add_zero, show ((Kd.slice 3 (Kd.int .i64))).sz = 1 from rfl, Nat.mul_one] at hv1481_0
                                           replace hv1481_0 := zbe (hv1481_0.symm.trans hx1481_0)
                                           rw [hv1481_0] at ge1481_0
                                           have HL1481_0 := zad (show Kd.R (Kd.int .i64) 3 _ _ _ _ (rd_L2 t1477 x112_3) from ge1481_0)
                                           clear hv1481_0 ge1481_0 hcc1481 hce1481; have HR1481_0 := zad hi1481_0; have HC1481_0 := zad hl1481_0; clear hi1481_0 hl1481_0; replace p1481 := eq_true p1481
                                           replace q1481 := eq_true q1481
                                           try go_wp2_with (first | ((with_reducible refine zbh (f := 22) rfl ?_); refine zbp (some 119) rfl rfl Try.func22 (by kernel_rfl) rfl #[.slice Ao10 t1457.length co10, .slice A1481_0 (rd_L2 t1477 x112_3).length c1481_0] rfl (taad) ?_; (with_reducible refine (laws_pBelow.calls k3 _ _ t1457 _ _ (rd_L2 t1477 x112_3) true _ ?side1 ?side2 ?side3 ?side4 A44.out).mono ?_); (case side1 => repeat (first | exact (zbf HO_5.out).2.2 | (with_reducible refine zal ?_ _) | (with_reducible refine zam ?_ _) | (with_reducible refine zan ?_))); (case side2 => exact (zbf HO_5.out).2.1); (case side3 => repeat (first | exact (taal) | (with_reducible refine zal ?_ _) | (with_reducible refine zam ?_ _) | (with_reducible refine zan ?_))); (case side4 => exact HC1481_0.out); rintro e w67 ⟨rfl, hb⟩; refine ⟨_, rfl, ?_⟩; have n0_ := zad (zbv (taak) hb); have n1_ := zad (zbv (taai) hb); have n2_ := zad (zbv (taah) hb); have n3_ := zad (Kd.S_below (taao) hb); have n4_ := zad (Kd.S_below (taap) hb); have n5_ := zad (zbv (taat) hb); have n6_ := zad (Kd.C_below (taal) hb); have n7_ := zad (zbg (taab) hb); clear HO_5 HO_6 HO_7 HO_15 HO_110 HL1481_0 HR1481_0 HB; have HO_5 := n0_; have HO_6 := n1_; have HO_7 := n2_; have HO_15 := n3_; have HO_110 := n4_; have HL1481_0 := n5_; have HR1481_0 := n6_; have HB := n7_; clear n0_ n1_ n2_ n3_ n4_ n5_ n6_ n7_; (try clear hb); (try clear hb2); (try clear hk); (try clear hi)) | (go_at_call 22; (with_reducible refine (laws_pBelow.calls k3 _ _ (rd_L2 t1477 x112_3) _ _ t1458 true _ ?side1 ?side2 ?side3 ?side4 A46.out).mono ?_); (case side1 => repeat (first | exact (taal) | (with_reducible refine zal ?_ _) | (with_reducible refine zam ?_ _) | (with_reducible refine zan ?_))); (case side2 => exact HC1481_0.out); (case side3 => repeat (first | exact (zbf HO_6.out).2.2 | (with_reducible refine zal ?_ _) | (with_reducible refine zam ?_ _) | (with_reducible refine zan ?_))); (case side4 => exact (zbf HO_6.out).2.1); rintro e w68 ⟨rfl, hb⟩; have n0_ := zad (zbv (taak) hb); have n1_ := zad (zbv (taai) hb); have n2_ := zad (zbv (taah) hb); have n3_ := zad (Kd.S_below (taao) hb); have n4_ := zad (Kd.S_below (taap) hb); have n5_ := zad (zbv (taat) hb); have n6_ := zad (Kd.C_below (taal) hb); have n7_ := zad (zbg (taab) hb); clear HO_5 HO_6 HO_7 HO_15 HO_110 HL1481_0 HR1481_0 HB; have HO_5 := n0_; have HO_6 := n1_; have HO_7 := n2_; have HO_15 := n3_; have HO_110 := n4_; have HL1481_0 := n5_; have HR1481_0 := n6_; have HB := n7_; clear n0_ n1_ n2_ n3_ n4_ n5_ n6_ n7_; (try clear hb); (try clear hb2); (try clear hk); (try clear hi); have p1498 : 0 ≤ ((ji51) : Int) := zas (taaa); have q1498 : (ji51) < (t1477.length : Int) := zas (taaa); obtain ⟨ad1498, A1498_0, c1498_0, e1498, hx1498_0, hl1498_0, hi1498_0⟩ := at_L2 (Kd.S_reads' HO_15.out).2.2 (ji51) p1498 q1498; obtain rfl : ad1481 = ad1498 := (by injection e1498); obtain ⟨ce1498, hce1498, hMe1498, hcc1498⟩ := Kd.S_get HO_15.out [] (ji51) p1498 (tafn); obtain ⟨ve1498_0, rfl, ge1498_0⟩ := hMe1498; have hv1498_0 := hcc1498 0 _ rfl; rw [Nat.add_zero, show ((Kd.slice 3 (Kd.int .i64))).sz = 1 from rfl, Nat.mul_one] at hv1498_0; replace hv1498_0 := zbe (hv1498_0.symm.trans hx1498_0); rw [hv1498_0] at ge1498_0; have HL1498_0 := zad (show Kd.R (Kd.int .i64) 3 _ _ _ _ (rd_L2 t1477 (ji51)) from ge1498_0); clear hv1498_0 ge1498_0 hcc1498 hce1498; have HR1498_0 := zad hi1498_0; have HC1498_0 := zad hl1498_0; clear hi1498_0 hl1498_0; replace p1498 := eq_true p1498; replace q1498 := eq_true q1498) | ((with_reducible refine zbh (f := 36) rfl ?_); refine zbp (some 135) rfl rfl Try.func36 (by kernel_rfl) rfl #[.slice A1498_0 (rd_L2 t1477 (ji51)).length c1498_0] rfl (tabb) ?_; (with_reducible refine (impl_SquareSum.calls k3 _ _ (rd_L2 t1477 (ji51)) t1499 true _ ?side1 ?side2 A54.out).mono ?_); (case side1 => repeat (first | exact (taav) | (with_reducible refine zal ?_ _) | (with_reducible refine zam ?_ _) | (with_reducible refine zan ?_))); (case side2 => exact HC1498_0.out); rintro e w' ⟨rfl, ⟨nd, rfl⟩⟩; refine ⟨_, rfl, ?_⟩) | ((with_reducible refine zbh (f := 36) rfl ?_); refine zbp (some 140) rfl rfl Try.func36 (by kernel_rfl) rfl #[.slice A1481_0 (rd_L2 t1477 x112_3).length c1481_0] rfl (taad) ?_; (with_reducible refine (impl_SquareSum.calls k3 _ _ (rd_L2 t1477 x112_3) t1501 true _ ?side1 ?side2 A55.out).mono ?_); (case side1 => repeat (first | exact (taal) | (with_reducible refine zal ?_ _) | (with_reducible refine zam ?_ _) | (with_reducible refine zan ?_))); (case side2 => exact HC1481_0.out); rintro e w' ⟨rfl, ⟨nd, rfl⟩⟩; refine ⟨_, rfl, ?_⟩))
                                           (try (rw [drewN_self w68]; generalize hq_ : World.drewN w68 _ = w68; have n0_ : Aside0 (Kd.R (Kd.int .i64) 3 w68 w.heap.size (fun k_ => some k_ ≠ (.slice (some ad1481) t1477.length co40 : Value).ownBlock ∧ some k_ ≠ (.slice Ao10 t1457.length co10 : Value).ownBlock ∧ some k_ ≠ (.slice Ao11 t1458.length co11 : Value).ownBlock) (.slice A1481_0 (rd_L2 t1477 x112_3).length c1481_0) (rd_L2 t1477 x112_3)) := ⟨tafo⟩; have n1_ : Aside0 (Kd.R (Kd.int .i64) 3 w68 w.heap.size (fun k_ => some k_ ≠ (.slice (some ad1481) t1477.length co40 : Value).ownBlock ∧ some k_ ≠ (.slice Ao10 t1457.length co10 : Value).ownBlock ∧ some k_ ≠ (.slice Ao11 t1458.length co11 : Value).ownBlock) (.slice A1498_0 (rd_L2 t1477 (ji51)).length c1498_0) (rd_L2 t1477 (ji51))) := ⟨tafp⟩; have n2_ : Aside0 (Kd.S (Kd.slice 3 (Kd.int .i64)) 26 w68 w.heap.size (fun k_ => some k_ ≠ (.slice Ao10 t1457.length co10 : Value).ownBlock ∧ some k_ ≠ (.slice Ao11 t1458.length co11 : Value).ownBlock) (.slice (some ad1481) t1477.length co40) t1477) := ⟨tafq⟩; have n3_ : Aside0 (Kd.S (Kd.slice 3 (Kd.int .i64)) 26 w68 w.heap.size (fun k_ => some k_ ≠ (.slice Ao10 t1457.length co10 : Value).ownBlock ∧ some k_ ≠ (.slice Ao11 t1458.length co11 : Value).ownBlock) (.slice (some ad1481) t1477.length co40) t1477) := ⟨tafr⟩; have n4_ : Aside0 (Kd.R (Kd.int .i64) 3 w68 w.heap.size (fun k_ => some k_ ≠ (.slice Ao11 t1458.length co11 : Value).ownBlock) (.slice Ao10 t1457.length co10) t1457) := ⟨tafs⟩; have n5_ : Aside0 (Kd.R (Kd.int .i64) 3 w68 w.heap.size (fun k_ => some k_ ≠ (.slice Ao10 t1457.length co10 : Value).ownBlock) (.slice Ao11 t1458.length co11) t1458) := ⟨taft⟩; have n6_ : Aside0 (Kd.R k39 39 w68 w.heap.size (fun _ => True) (.slice Ao30 t1463.length co30) t1463) := ⟨tafl⟩; have n7_ : Aside0 (Below w.heap.size w w68) := ⟨tafm⟩; have n8_ : Aside0 (Kd.C (Kd.int .i64) w68 A1481_0 (rd_L2 t1477 x112_3).length (rd_L2 t1477 x112_3)) := ⟨tafu⟩; have n9_ : Aside0 (Kd.C (Kd.int .i64) w68 A1498_0 (rd_L2 t1477 (ji51)).length (rd_L2 t1477 (ji51))) := ⟨tafv⟩; clear HL1481_0 HL1498_0 HO_110 HO_15 HO_5 HO_6 HO_7 HB HR1481_0 HR1498_0 hq_; have HL1481_0 := n0_; have HL1498_0 := n1_; have HO_110 := n2_; have HO_15 := n3_; have HO_5 := n4_; have HO_6 := n5_; have HO_7 := n6_; have HB := n7_; have HR1481_0 := n8_; have HR1498_0 := n9_; clear n0_ n1_ n2_ n3_ n4_ n5_ n6_ n7_ n8_ n9_))
                                           have n0_ := zad (zak HO_5.out)
                                           have n1_ := zad (zak HO_6.out)
                                           have n2_ := zad (zak HO_7.out)
                                           have n3_ := zad (Kd.S_drew HO_15.out)
                                           have n4_ := zad (Kd.S_drew HO_110.out)
                                           have n5_ := zad (zak HL1481_0.out)
                                           have n6_ := zad (zak HL1498_0.out)
                                           have n7_ := zad (zan HR1481_0.out)
                                           have n8_ := zad (zan HR1498_0.out)
                                           have n9_ := zad (zaf HB.out)
                                           clear HO_5 HO_6 HO_7 HO_15 HO_110 HL1481_0 HL1498_0 HR1481_0 HR1498_0 HB; have HO_5 := n0_; have HO_6 := n1_; have HO_7 := n2_; have HO_15 := n3_; have HO_110 := n4_; have HL1481_0 := n5_; have HL1498_0 := n6_; have HR1481_0 := n7_; have HR1498_0 := n8_; have HB := n9_; clear n0_ n1_ n2_ n3_ n4_ n5_ n6_ n7_ n8_ n9_; have p1503 : 0 ≤ ((ji51) : Int) := zas (taaa)
                                           have q1503 : (ji51) < (t1477.length : Int) := zas (taaa)
                                           obtain ⟨ad1503, A1503_0, c1503_0, e1503, hx1503_0, hl1503_0, hi1503_0⟩ := at_L2 (Kd.S_reads' HO_15.out).2.2 (ji51) p1503 q1503
                                           obtain rfl : ad1481 = ad1503 := (by injection e1503)
                                           obtain ⟨ce1503, hce1503, hMe1503, hcc1503⟩ := Kd.S_get HO_15.out [] (ji51) p1503 (tafw)
                                           obtain ⟨ve1503_0, rfl, ge1503_0⟩ := hMe1503
                                           have hv1503_0 := hcc1503 0 _ rfl
                                           rw [Nat.add_zero, show ((Kd.slice 3 (Kd.int .i64))).sz = 1 from rfl, Nat.mul_one] at hv1503_0
                                           replace hv1503_0 := zbe (hv1503_0.symm.trans hx1503_0)
                                           rw [hv1503_0] at ge1503_0
                                           have HL1503_0 := zad (show Kd.R (Kd.int .i64) 3 _ _ _ _ (rd_L2 t1477 (ji51)) from ge1503_0)
                                           clear hv1503_0 ge1503_0 hcc1503 hce1503; have HR1503_0 := zad hi1503_0; have HC1503_0 := zad hl1503_0; clear hi1503_0 hl1503_0; replace p1503 := eq_true p1503
                                           replace q1503 := eq_true q1503
                                           have p1504 : 0 ≤ ((ji51) : Int) := zas (taaa)
                                           have q1504 : (ji51) < (t1463.length : Int) := zas (taaa)
                                           obtain ⟨ad1504, e1504, hx1504_0, hx1504_1, hx1504_2⟩ := at_T39 (zbf HO_7.out).2.2 (ji51) p1504 q1504
                                           cases e1504
                                           replace p1504 := eq_true p1504
                                           replace q1504 := eq_true q1504
                                           refine start_ (n := 16) (S := fun w' => w'.cell? (ad1481.add ((ji51)).toNat) = some (.slice A1503_0 (rd_L2 t1477 (ji51)).length c1503_0) ∧ w'.cell? (ad1504.add (((ji51)).toNat * 3)) = some (.int .i64 ((rd_T39 t1463 (ji51)).f0)) ∧ w'.cell? ⟨(ad1504.add (((ji51)).toNat * 3)).block, (ad1504.add (((ji51)).toNat * 3)).off + 1, none⟩ = some (.int .i64 ((rd_T39 t1463 (ji51)).f1)) ∧ w'.cell? ⟨(ad1504.add (((ji51)).toNat * 3)).block, (ad1504.add (((ji51)).toNat * 3)).off + 2, none⟩ = some (.int .i64 ((rd_T39 t1463 (ji51)).f2))) (ds := []) #[false, false, false, false, false, false, false, false, false, false, false, false, false, false, false, false] (by kernel_rfl) rfl rfl ⟨hx1503_0, hx1504_0, hx1504_1, hx1504_2⟩ (fun hHeld => ?_); refine with_tabW laws_FnGiftPathsExist.tab23 laws_FnGiftPathsExist.bits23 (fun HT_ HW_ => ?_)
                                           generalize w68.drew = w69 at HO_5 HO_6 HO_7 HO_15 HO_110 HL1481_0 HL1498_0 HR1481_0 HR1498_0 HB HL1503_0 HR1503_0 hx1503_0 hx1504_0 hx1504_1 hx1504_2 hHeld ⊢
                                           refine pure_ (i := 0) (N := some 144) (v := ?_) (a' := ?_) tajh rfl rfl (zca HT_.out (by kernel_rfl)) (fun _ _ _ h => h) (Or.inl ⟨by rfl, ?_⟩) ?_ ?_
                                           rotate_left
                                           · intro w'
                                             go_simp; with_reducible rfl
                                           rotate_left
                                           · simp only [Act.put, zaa, zab, zac, zby, zbz]
                                             rfl
                                           refine pure_ (i := 1) (N := some 145) (v := ?_) (a' := ?_) taji rfl rfl (zca HT_.out (by kernel_rfl)) (fun _ _ _ h => h) (Or.inl ⟨by rfl, ?_⟩) ?_ ?_
                                           rotate_left
                                           · intro w'
                                             go_simp; with_reducible rfl
                                           rotate_left
                                           · simp only [Act.put, zaa, zab, zac, zby, zbz]
                                             rfl
                                           refine pure_ (i := 2) (N := some 146) (v := ?_) (a' := ?_) tajj rfl rfl (zca HT_.out (by kernel_rfl)) (fun _ _ _ h => h) (Or.inl ⟨by rfl, ?_⟩) ?_ ?_
                                           rotate_left
                                           · intro w'
                                             go_simp; with_reducible rfl
                                           rotate_left
                                           · simp only [Act.put, zaa, zab, zac, zby, zbz]
                                             rfl
                                           refine pure_ (i := 3) (N := some 147) (v := ?_) (a' := ?_) tajk rfl rfl (zca HT_.out (by kernel_rfl)) (fun _ _ _ h => h) (Or.inl ⟨by rfl, ?_⟩) ?_ ?_
                                           rotate_left
                                           · intro w'
                                             go_simp; with_reducible rfl
                                           rotate_left
                                           · simp only [Act.put, zaa, zab, zac, zby, zbz]
                                             rfl
                                           refine pure_ (i := 5) (N := some 149) (v := ?_) (a' := ?_) tajl rfl rfl (zca HT_.out (by kernel_rfl)) (fun _ _ _ h => h) (Or.inl ⟨by rfl, ?_⟩) ?_ ?_
                                           rotate_left
                                           · intro w'
                                             go_simp; with_reducible rfl
                                           rotate_left
                                           · simp only [Act.put, zaa, zab, zac, zby, zbz]
                                             rfl
                                           refine pure_ (i := 6) (N := some 150) (v := ?_) (a' := ?_) tajm rfl rfl (zca HT_.out (by kernel_rfl)) (fun _ _ _ h => h) (Or.inl ⟨by rfl, ?_⟩) ?_ ?_
                                           rotate_left
                                           · intro w'
                                             go_simp; with_reducible rfl
                                           rotate_left
                                           · simp only [Act.put, zaa, zab, zac, zby, zbz]
                                             rfl
                                           refine pure_ (i := 7) (N := some 151) (v := ?_) (a' := ?_) tajn rfl rfl (zca HT_.out (by kernel_rfl)) (fun _ _ _ h => h) (Or.inl ⟨by rfl, ?_⟩) ?_ ?_
                                           rotate_left
                                           · intro w'
                                             go_simp; with_reducible rfl
                                           rotate_left
                                           · simp only [Act.put, zaa, zab, zac, zby, zbz]
                                             rfl
                                           refine pure_ (i := 8) (N := some 152) (v := ?_) (a' := ?_) tajo rfl rfl (zca HT_.out (by kernel_rfl)) (fun _ _ _ h => h) (Or.inl ⟨by rfl, ?_⟩) ?_ ?_
                                           rotate_left
                                           · intro w'
                                             go_simp; with_reducible rfl
                                           rotate_left
                                           · simp only [Act.put, zaa, zab, zac, zby, zbz]
                                             rfl
                                           refine take_ (i := 4) (N := some 148) (v := ?_) (a' := ?_) tajp rfl rfl (zcb HT_.out HW_.out (by kernel_rfl)) (fun _ _ _ h => h) (Or.inl ⟨by rfl, ?_⟩) hHeld ?_ ?_
                                           rotate_left
                                           · rintro w' ⟨s0, s1, s2, s3⟩
                                             go_simp; with_reducible rfl
                                           rotate_left
                                           · simp only [Act.put, zaa, zab, zac, zby, zbz]
                                             rfl
                                           refine take_ (i := 9) (N := some 153) (v := ?_) (a' := ?_) tajq rfl rfl (zcb HT_.out HW_.out (by kernel_rfl)) (fun _ _ _ h => h) (Or.inl ⟨by rfl, ?_⟩) hHeld ?_ ?_
                                           rotate_left
                                           · rintro w' ⟨s0, s1, s2, s3⟩
                                             go_simp; with_reducible rfl
                                           rotate_left
                                           · simp only [Act.put, zaa, zab, zac, zby, zbz]
                                             rfl
                                           refine one_ (i := 10) (N := some 154) #[true, true, true, true, true, true, true, true, true, true, true, false, false, false, false, false] rfl rfl (one_of HT_.out (by kernel_rfl)) (by decide) (fun K hK => ?_)
                                           refine goes_ Try.func28 (by kernel_rfl) rfl #[.slice A1503_0 (rd_L2 t1477 (ji51)).length c1503_0, .agg #[.int .i64 ((rd_T39 t1463 (ji51)).f0), .int .i64 ((rd_T39 t1463 (ji51)).f1), .int .i64 ((rd_T39 t1463 (ji51)).f2)]] (by rfl) rfl rfl (tabb) ?_
                                           with_reducible refine (impl_SquaresFall.calls k3 _ _ (rd_L2 t1477 (ji51)) ((rd_T39 t1463 (ji51)).f0) ((rd_T39 t1463 (ji51)).f1) ((rd_T39 t1463 (ji51)).f2) t1505 true _ ?side1 ?side2 A57.out).mono ?_
                                           (case side1 => exact tagf)
                                           (case side2 => exact HC1503_0.out)
                                           rintro e w70 ⟨rfl, hb⟩
                                           have HS0_ := (hb.cell (zaz _ _ (hHeld.1))).trans (hHeld.1)
                                           have HS1_ := (hb.cell (zaz _ _ (hHeld.2.1))).trans (hHeld.2.1)
                                           have HS2_ := (hb.cell (zaz _ _ (hHeld.2.2.1))).trans (hHeld.2.2.1)
                                           have HS3_ := (hb.cell (zaz _ _ (hHeld.2.2.2))).trans (hHeld.2.2.2)
                                           refine ⟨_, rfl, ?_⟩
                                           have n0_ := zad (zbv (taak) hb)
                                           have n1_ := zad (zbv (taai) hb)
                                           have n2_ := zad (zbv (taah) hb)
                                           have n3_ := zad (Kd.S_below (taao) hb)
                                           have n4_ := zad (Kd.S_below (taap) hb)
                                           have n5_ := zad (zbv (taat) hb)
                                           have n6_ := zad (zbv (tabz) hb)
                                           have n7_ := zad (zbv (taca) hb)
                                           have n8_ := zad (Kd.C_below (taal) hb)
                                           have n9_ := zad (Kd.C_below (taav) hb)
                                           have n10_ := zad (Kd.C_below (tabc) hb)
                                           have n11_ := zad (zbg (taab) hb)
                                           clear HO_5 HO_6 HO_7 HO_15 HO_110 HL1481_0 HL1498_0 HL1503_0 HR1481_0 HR1498_0 HR1503_0 HB; have HO_5 := n0_; have HO_6 := n1_; have HO_7 := n2_; have HO_15 := n3_; have HO_110 := n4_; have HL1481_0 := n5_; have HL1498_0 := n6_; have HL1503_0 := n7_; have HR1481_0 := n8_; have HR1498_0 := n9_; have HR1503_0 := n10_; have HB := n11_; clear n0_ n1_ n2_ n3_ n4_ n5_ n6_ n7_ n8_ n9_ n10_ n11_; (try clear hb); (try clear hb2); (try clear hk); (try clear hi); refine hK.out _ _ ⟨HS0_, HS1_, HS2_, HS3_⟩ (fun hHeld => ?_)
                                           clear hK K; refine norm_ (a' := ?_) ?_ ?_
                                           rotate_left
                                           · show Act.put _ (some 154) _ = _
                                             simp only [Act.put, zaa, zab, zac, zby, zbz]
                                             rfl
                                           refine pure_ (i := 11) (N := some 143) (v := ?_) (a' := ?_) tajr rfl rfl (zca HT_.out (by kernel_rfl)) (fun _ _ _ h => h) (Or.inl ⟨by rfl, ?_⟩) ?_ ?_
                                           rotate_left
                                           · intro w'
                                             go_simp; with_reducible rfl
                                           rotate_left
                                           · simp only [Act.put, zaa, zab, zac, zby, zbz]
                                             rfl
                                           refine pure_ (i := 12) (N := some 155) (v := ?_) (a' := ?_) tajs rfl rfl (zca HT_.out (by kernel_rfl)) (fun _ _ _ h => h) (Or.inl ⟨by rfl, ?_⟩) ?_ ?_
                                           rotate_left
                                           · intro w'
                                             go_simp; with_reducible rfl
                                           rotate_left
                                           · simp only [Act.put, zaa, zab, zac, zby, zbz]
                                             rfl
                                           refine pure_ (i := 13) (N := some 156) (v := ?_) (a' := ?_) tajt rfl rfl (zca HT_.out (by kernel_rfl)) (fun _ _ _ h => h) (Or.inl ⟨by rfl, ?_⟩) ?_ ?_
                                           rotate_left
                                           · intro w'
                                             go_simp; with_reducible rfl
                                           rotate_left
                                           · simp only [Act.put, zaa, zab, zac, zby, zbz]
                                             rfl
                                           refine pure_ (i := 14) (N := some 23) (v := ?_) (a' := ?_) taju rfl rfl (zca HT_.out (by kernel_rfl)) (fun _ _ _ h => h) (Or.inl ⟨by rfl, ?_⟩) ?_ ?_
                                           rotate_left
                                           · intro w'
                                             go_simp; with_reducible rfl
                                           rotate_left
                                           · simp only [Act.put, zaa, zab, zac, zby, zbz]
                                             rfl
                                           refine pure_ (i := 15) (N := some 24) (v := ?_) (a' := ?_) tajv rfl rfl (zca HT_.out (by kernel_rfl)) (fun _ _ _ h => h) (Or.inl ⟨by rfl, ?_⟩) ?_ ?_
                                           rotate_left
                                           · intro w'
                                             go_simp; with_reducible rfl
                                           rotate_left
                                           · simp only [Act.put, zaa, zab, zac, zby, zbz]
                                             rfl
                                           refine done_ (done_of HT_.out (by kernel_rfl)) ?_
                                           try go_wp2
                                           go_roundg k3
                                           case measure => have := HJ7.out; have := HJ27.out; have := HK3.out; omega
                                           case rel => exact ⟨(wrap64 (x112_3 + 1)), (taag), H', ⟨by have := HJ7.out; have := HJ27.out; have := HK3.out; omega⟩, ⟨taak⟩, ⟨taai⟩, ⟨taah⟩, ⟨taao⟩, ⟨taap⟩, ⟨taab⟩⟩
                                         · rw [if_neg c66] at H
                                           have c66b0 : ((wrap64 (t1499 - t1501)) == t1505) = false := zbq.mpr c66
                                           have c66b1 : ((wrap64 (t1499 - t1501)) != t1505) = true := bne_iff_ne.mpr c66
                                           obtain rfl := zbe H
                                           have p1481 : 0 ≤ (x112_3 : Int) := zas (taaa)
                                           have q1481 : x112_3 < (t1477.length : Int) := zas (taaa)
                                           obtain ⟨ad1481, A1481_0, c1481_0, e1481, hx1481_0, hl1481_0, hi1481_0⟩ := at_L2 (Kd.S_reads' HO_110.out).2.2 x112_3 p1481 q1481
                                           cases e1481
                                           obtain ⟨ce1481, hce1481, hMe1481, hcc1481⟩ := Kd.S_get HO_110.out [] x112_3 p1481 (tafk)
                                           obtain ⟨ve1481_0, rfl, ge1481_0⟩ := hMe1481
                                           have hv1481_0 := hcc1481 0 _ rfl
                                           rw [Nat.add_zero, show ((Kd.slice 3 (Kd.int .i64))).sz = 1 from rfl, Nat.mul_one] at hv1481_0
                                           replace hv1481_0 := zbe (hv1481_0.symm.trans hx1481_0)
                                           rw [hv1481_0] at ge1481_0
                                           have HL1481_0 := zad (show Kd.R (Kd.int .i64) 3 _ _ _ _ (rd_L2 t1477 x112_3) from ge1481_0)
                                           clear hv1481_0 ge1481_0 hcc1481 hce1481; have HR1481_0 := zad hi1481_0; have HC1481_0 := zad hl1481_0; clear hi1481_0 hl1481_0; replace p1481 := eq_true p1481
                                           replace q1481 := eq_true q1481
                                           try go_wp2_with (first | ((with_reducible refine zbh (f := 22) rfl ?_); refine zbp (some 119) rfl rfl Try.func22 (by kernel_rfl) rfl #[.slice Ao10 t1457.length co10, .slice A1481_0 (rd_L2 t1477 x112_3).length c1481_0] rfl (taad) ?_; (with_reducible refine (laws_pBelow.calls k3 _ _ t1457 _ _ (rd_L2 t1477 x112_3) true _ ?side1 ?side2 ?side3 ?side4 A44.out).mono ?_); (case side1 => repeat (first | exact (zbf HO_5.out).2.2 | (with_reducible refine zal ?_ _) | (with_reducible refine zam ?_ _) | (with_reducible refine zan ?_))); (case side2 => exact (zbf HO_5.out).2.1); (case side3 => repeat (first | exact (taal) | (with_reducible refine zal ?_ _) | (with_reducible refine zam ?_ _) | (with_reducible refine zan ?_))); (case side4 => exact HC1481_0.out); rintro e w71 ⟨rfl, hb⟩; refine ⟨_, rfl, ?_⟩; have n0_ := zad (zbv (taak) hb); have n1_ := zad (zbv (taai) hb); have n2_ := zad (zbv (taah) hb); have n3_ := zad (Kd.S_below (taao) hb); have n4_ := zad (Kd.S_below (taap) hb); have n5_ := zad (zbv (taat) hb); have n6_ := zad (Kd.C_below (taal) hb); have n7_ := zad (zbg (taab) hb); clear HO_5 HO_6 HO_7 HO_15 HO_110 HL1481_0 HR1481_0 HB; have HO_5 := n0_; have HO_6 := n1_; have HO_7 := n2_; have HO_15 := n3_; have HO_110 := n4_; have HL1481_0 := n5_; have HR1481_0 := n6_; have HB := n7_; clear n0_ n1_ n2_ n3_ n4_ n5_ n6_ n7_; (try clear hb); (try clear hb2); (try clear hk); (try clear hi)) | (go_at_call 22; (with_reducible refine (laws_pBelow.calls k3 _ _ (rd_L2 t1477 x112_3) _ _ t1458 true _ ?side1 ?side2 ?side3 ?side4 A46.out).mono ?_); (case side1 => repeat (first | exact (taal) | (with_reducible refine zal ?_ _) | (with_reducible refine zam ?_ _) | (with_reducible refine zan ?_))); (case side2 => exact HC1481_0.out); (case side3 => repeat (first | exact (zbf HO_6.out).2.2 | (with_reducible refine zal ?_ _) | (with_reducible refine zam ?_ _) | (with_reducible refine zan ?_))); (case side4 => exact (zbf HO_6.out).2.1); rintro e w72 ⟨rfl, hb⟩; have n0_ := zad (zbv (taak) hb); have n1_ := zad (zbv (taai) hb); have n2_ := zad (zbv (taah) hb); have n3_ := zad (Kd.S_below (taao) hb); have n4_ := zad (Kd.S_below (taap) hb); have n5_ := zad (zbv (taat) hb); have n6_ := zad (Kd.C_below (taal) hb); have n7_ := zad (zbg (taab) hb); clear HO_5 HO_6 HO_7 HO_15 HO_110 HL1481_0 HR1481_0 HB; have HO_5 := n0_; have HO_6 := n1_; have HO_7 := n2_; have HO_15 := n3_; have HO_110 := n4_; have HL1481_0 := n5_; have HR1481_0 := n6_; have HB := n7_; clear n0_ n1_ n2_ n3_ n4_ n5_ n6_ n7_; (try clear hb); (try clear hb2); (try clear hk); (try clear hi); have p1498 : 0 ≤ ((ji51) : Int) := zas (taaa); have q1498 : (ji51) < (t1477.length : Int) := zas (taaa); obtain ⟨ad1498, A1498_0, c1498_0, e1498, hx1498_0, hl1498_0, hi1498_0⟩ := at_L2 (Kd.S_reads' HO_15.out).2.2 (ji51) p1498 q1498; obtain rfl : ad1481 = ad1498 := (by injection e1498); obtain ⟨ce1498, hce1498, hMe1498, hcc1498⟩ := Kd.S_get HO_15.out [] (ji51) p1498 (tafn); obtain ⟨ve1498_0, rfl, ge1498_0⟩ := hMe1498; have hv1498_0 := hcc1498 0 _ rfl; rw [Nat.add_zero, show ((Kd.slice 3 (Kd.int .i64))).sz = 1 from rfl, Nat.mul_one] at hv1498_0; replace hv1498_0 := zbe (hv1498_0.symm.trans hx1498_0); rw [hv1498_0] at ge1498_0; have HL1498_0 := zad (show Kd.R (Kd.int .i64) 3 _ _ _ _ (rd_L2 t1477 (ji51)) from ge1498_0); clear hv1498_0 ge1498_0 hcc1498 hce1498; have HR1498_0 := zad hi1498_0; have HC1498_0 := zad hl1498_0; clear hi1498_0 hl1498_0; replace p1498 := eq_true p1498; replace q1498 := eq_true q1498) | ((with_reducible refine zbh (f := 36) rfl ?_); refine zbp (some 135) rfl rfl Try.func36 (by kernel_rfl) rfl #[.slice A1498_0 (rd_L2 t1477 (ji51)).length c1498_0] rfl (tabb) ?_; (with_reducible refine (impl_SquareSum.calls k3 _ _ (rd_L2 t1477 (ji51)) t1499 true _ ?side1 ?side2 A54.out).mono ?_); (case side1 => repeat (first | exact (taav) | (with_reducible refine zal ?_ _) | (with_reducible refine zam ?_ _) | (with_reducible refine zan ?_))); (case side2 => exact HC1498_0.out); rintro e w' ⟨rfl, ⟨nd, rfl⟩⟩; refine ⟨_, rfl, ?_⟩) | ((with_reducible refine zbh (f := 36) rfl ?_); refine zbp (some 140) rfl rfl Try.func36 (by kernel_rfl) rfl #[.slice A1481_0 (rd_L2 t1477 x112_3).length c1481_0] rfl (taad) ?_; (with_reducible refine (impl_SquareSum.calls k3 _ _ (rd_L2 t1477 x112_3) t1501 true _ ?side1 ?side2 A55.out).mono ?_); (case side1 => repeat (first | exact (taal) | (with_reducible refine zal ?_ _) | (with_reducible refine zam ?_ _) | (with_reducible refine zan ?_))); (case side2 => exact HC1481_0.out); rintro e w' ⟨rfl, ⟨nd, rfl⟩⟩; refine ⟨_, rfl, ?_⟩))
                                           (try (rw [drewN_self w72]; generalize hq_ : World.drewN w72 _ = w72; have n0_ : Aside0 (Kd.R (Kd.int .i64) 3 w72 w.heap.size (fun k_ => some k_ ≠ (.slice (some ad1481) t1477.length co40 : Value).ownBlock ∧ some k_ ≠ (.slice Ao10 t1457.length co10 : Value).ownBlock ∧ some k_ ≠ (.slice Ao11 t1458.length co11 : Value).ownBlock) (.slice A1481_0 (rd_L2 t1477 x112_3).length c1481_0) (rd_L2 t1477 x112_3)) := ⟨tafo⟩; have n1_ : Aside0 (Kd.R (Kd.int .i64) 3 w72 w.heap.size (fun k_ => some k_ ≠ (.slice (some ad1481) t1477.length co40 : Value).ownBlock ∧ some k_ ≠ (.slice Ao10 t1457.length co10 : Value).ownBlock ∧ some k_ ≠ (.slice Ao11 t1458.length co11 : Value).ownBlock) (.slice A1498_0 (rd_L2 t1477 (ji51)).length c1498_0) (rd_L2 t1477 (ji51))) := ⟨tafp⟩; have n2_ : Aside0 (Kd.S (Kd.slice 3 (Kd.int .i64)) 26 w72 w.heap.size (fun k_ => some k_ ≠ (.slice Ao10 t1457.length co10 : Value).ownBlock ∧ some k_ ≠ (.slice Ao11 t1458.length co11 : Value).ownBlock) (.slice (some ad1481) t1477.length co40) t1477) := ⟨tafq⟩; have n3_ : Aside0 (Kd.S (Kd.slice 3 (Kd.int .i64)) 26 w72 w.heap.size (fun k_ => some k_ ≠ (.slice Ao10 t1457.length co10 : Value).ownBlock ∧ some k_ ≠ (.slice Ao11 t1458.length co11 : Value).ownBlock) (.slice (some ad1481) t1477.length co40) t1477) := ⟨tafr⟩; have n4_ : Aside0 (Kd.R (Kd.int .i64) 3 w72 w.heap.size (fun k_ => some k_ ≠ (.slice Ao11 t1458.length co11 : Value).ownBlock) (.slice Ao10 t1457.length co10) t1457) := ⟨tafs⟩; have n5_ : Aside0 (Kd.R (Kd.int .i64) 3 w72 w.heap.size (fun k_ => some k_ ≠ (.slice Ao10 t1457.length co10 : Value).ownBlock) (.slice Ao11 t1458.length co11) t1458) := ⟨taft⟩; have n6_ : Aside0 (Kd.R k39 39 w72 w.heap.size (fun _ => True) (.slice Ao30 t1463.length co30) t1463) := ⟨tafl⟩; have n7_ : Aside0 (Below w.heap.size w w72) := ⟨tafm⟩; have n8_ : Aside0 (Kd.C (Kd.int .i64) w72 A1481_0 (rd_L2 t1477 x112_3).length (rd_L2 t1477 x112_3)) := ⟨tafu⟩; have n9_ : Aside0 (Kd.C (Kd.int .i64) w72 A1498_0 (rd_L2 t1477 (ji51)).length (rd_L2 t1477 (ji51))) := ⟨tafv⟩; clear HL1481_0 HL1498_0 HO_110 HO_15 HO_5 HO_6 HO_7 HB HR1481_0 HR1498_0 hq_; have HL1481_0 := n0_; have HL1498_0 := n1_; have HO_110 := n2_; have HO_15 := n3_; have HO_5 := n4_; have HO_6 := n5_; have HO_7 := n6_; have HB := n7_; have HR1481_0 := n8_; have HR1498_0 := n9_; clear n0_ n1_ n2_ n3_ n4_ n5_ n6_ n7_ n8_ n9_))
                                           have n0_ := zad (zak HO_5.out)
                                           have n1_ := zad (zak HO_6.out)
                                           have n2_ := zad (zak HO_7.out)
                                           have n3_ := zad (Kd.S_drew HO_15.out)
                                           have n4_ := zad (Kd.S_drew HO_110.out)
                                           have n5_ := zad (zak HL1481_0.out)
                                           have n6_ := zad (zak HL1498_0.out)
                                           have n7_ := zad (zan HR1481_0.out)
                                           have n8_ := zad (zan HR1498_0.out)
                                           have n9_ := zad (zaf HB.out)
                                           clear HO_5 HO_6 HO_7 HO_15 HO_110 HL1481_0 HL1498_0 HR1481_0 HR1498_0 HB; have HO_5 := n0_; have HO_6 := n1_; have HO_7 := n2_; have HO_15 := n3_; have HO_110 := n4_; have HL1481_0 := n5_; have HL1498_0 := n6_; have HR1481_0 := n7_; have HR1498_0 := n8_; have HB := n9_; clear n0_ n1_ n2_ n3_ n4_ n5_ n6_ n7_ n8_ n9_; have p1503 : 0 ≤ ((ji51) : Int) := zas (taaa)
                                           have q1503 : (ji51) < (t1477.length : Int) := zas (taaa)
                                           obtain ⟨ad1503, A1503_0, c1503_0, e1503, hx1503_0, hl1503_0, hi1503_0⟩ := at_L2 (Kd.S_reads' HO_15.out).2.2 (ji51) p1503 q1503
                                           obtain rfl : ad1481 = ad1503 := (by injection e1503)
                                           obtain ⟨ce1503, hce1503, hMe1503, hcc1503⟩ := Kd.S_get HO_15.out [] (ji51) p1503 (tafw)
                                           obtain ⟨ve1503_0, rfl, ge1503_0⟩ := hMe1503
                                           have hv1503_0 := hcc1503 0 _ rfl
                                           rw [Nat.add_zero, show ((Kd.slice 3 (Kd.int .i64))).sz = 1 from rfl, Nat.mul_one] at hv1503_0
                                           replace hv1503_0 := zbe (hv1503_0.symm.trans hx1503_0)
                                           rw [hv1503_0] at ge1503_0
                                           have HL1503_0 := zad (show Kd.R (Kd.int .i64) 3 _ _ _ _ (rd_L2 t1477 (ji51)) from ge1503_0)
                                           clear hv1503_0 ge1503_0 hcc1503 hce1503; have HR1503_0 := zad hi1503_0; have HC1503_0 := zad hl1503_0; clear hi1503_0 hl1503_0; replace p1503 := eq_true p1503
                                           replace q1503 := eq_true q1503
                                           have p1504 : 0 ≤ ((ji51) : Int) := zas (taaa)
                                           have q1504 : (ji51) < (t1463.length : Int) := zas (taaa)
                                           obtain ⟨ad1504, e1504, hx1504_0, hx1504_1, hx1504_2⟩ := at_T39 (zbf HO_7.out).2.2 (ji51) p1504 q1504
                                           cases e1504
                                           replace p1504 := eq_true p1504
                                           replace q1504 := eq_true q1504
                                           refine start_ (n := 16) (S := fun w' => w'.cell? (ad1481.add ((ji51)).toNat) = some (.slice A1503_0 (rd_L2 t1477 (ji51)).length c1503_0) ∧ w'.cell? (ad1504.add (((ji51)).toNat * 3)) = some (.int .i64 ((rd_T39 t1463 (ji51)).f0)) ∧ w'.cell? ⟨(ad1504.add (((ji51)).toNat * 3)).block, (ad1504.add (((ji51)).toNat * 3)).off + 1, none⟩ = some (.int .i64 ((rd_T39 t1463 (ji51)).f1)) ∧ w'.cell? ⟨(ad1504.add (((ji51)).toNat * 3)).block, (ad1504.add (((ji51)).toNat * 3)).off + 2, none⟩ = some (.int .i64 ((rd_T39 t1463 (ji51)).f2))) (ds := []) #[false, false, false, false, false, false, false, false, false, false, false, false, false, false, false, false] (by kernel_rfl) rfl rfl ⟨hx1503_0, hx1504_0, hx1504_1, hx1504_2⟩ (fun hHeld => ?_); refine with_tabW laws_FnGiftPathsExist.tab23 laws_FnGiftPathsExist.bits23 (fun HT_ HW_ => ?_)
                                           generalize w72.drew = w73 at HO_5 HO_6 HO_7 HO_15 HO_110 HL1481_0 HL1498_0 HR1481_0 HR1498_0 HB HL1503_0 HR1503_0 hx1503_0 hx1504_0 hx1504_1 hx1504_2 hHeld ⊢
                                           refine pure_ (i := 0) (N := some 144) (v := ?_) (a' := ?_) tajh rfl rfl (zca HT_.out (by kernel_rfl)) (fun _ _ _ h => h) (Or.inl ⟨by rfl, ?_⟩) ?_ ?_
                                           rotate_left
                                           · intro w'
                                             go_simp; with_reducible rfl
                                           rotate_left
                                           · simp only [Act.put, zaa, zab, zac, zby, zbz]
                                             rfl
                                           refine pure_ (i := 1) (N := some 145) (v := ?_) (a' := ?_) taji rfl rfl (zca HT_.out (by kernel_rfl)) (fun _ _ _ h => h) (Or.inl ⟨by rfl, ?_⟩) ?_ ?_
                                           rotate_left
                                           · intro w'
                                             go_simp; with_reducible rfl
                                           rotate_left
                                           · simp only [Act.put, zaa, zab, zac, zby, zbz]
                                             rfl
                                           refine pure_ (i := 2) (N := some 146) (v := ?_) (a' := ?_) tajj rfl rfl (zca HT_.out (by kernel_rfl)) (fun _ _ _ h => h) (Or.inl ⟨by rfl, ?_⟩) ?_ ?_
                                           rotate_left
                                           · intro w'
                                             go_simp; with_reducible rfl
                                           rotate_left
                                           · simp only [Act.put, zaa, zab, zac, zby, zbz]
                                             rfl
                                           refine pure_ (i := 3) (N := some 147) (v := ?_) (a' := ?_) tajk rfl rfl (zca HT_.out (by kernel_rfl)) (fun _ _ _ h => h) (Or.inl ⟨by rfl, ?_⟩) ?_ ?_
                                           rotate_left
                                           · intro w'
                                             go_simp; with_reducible rfl
                                           rotate_left
                                           · simp only [Act.put, zaa, zab, zac, zby, zbz]
                                             rfl
                                           refine pure_ (i := 5) (N := some 149) (v := ?_) (a' := ?_) tajl rfl rfl (zca HT_.out (by kernel_rfl)) (fun _ _ _ h => h) (Or.inl ⟨by rfl, ?_⟩) ?_ ?_
                                           rotate_left
                                           · intro w'
                                             go_simp; with_reducible rfl
                                           rotate_left
                                           · simp only [Act.put, zaa, zab, zac, zby, zbz]
                                             rfl
                                           refine pure_ (i := 6) (N := some 150) (v := ?_) (a' := ?_) tajm rfl rfl (zca HT_.out (by kernel_rfl)) (fun _ _ _ h => h) (Or.inl ⟨by rfl, ?_⟩) ?_ ?_
                                           rotate_left
                                           · intro w'
                                             go_simp; with_reducible rfl
                                           rotate_left
                                           · simp only [Act.put, zaa, zab, zac, zby, zbz]
                                             rfl
                                           refine pure_ (i := 7) (N := some 151) (v := ?_) (a' := ?_) tajn rfl rfl (zca HT_.out (by kernel_rfl)) (fun _ _ _ h => h) (Or.inl ⟨by rfl, ?_⟩) ?_ ?_
                                           rotate_left
                                           · intro w'
                                             go_simp; with_reducible rfl
                                           rotate_left
                                           · simp only [Act.put, zaa, zab, zac, zby, zbz]
                                             rfl
                                           refine pure_ (i := 8) (N := some 152) (v := ?_) (a' := ?_) tajo rfl rfl (zca HT_.out (by kernel_rfl)) (fun _ _ _ h => h) (Or.inl ⟨by rfl, ?_⟩) ?_ ?_
                                           rotate_left
                                           · intro w'
                                             go_simp; with_reducible rfl
                                           rotate_left
                                           · simp only [Act.put, zaa, zab, zac, zby, zbz]
                                             rfl
                                           refine take_ (i := 4) (N := some 148) (v := ?_) (a' := ?_) tajp rfl rfl (zcb HT_.out HW_.out (by kernel_rfl)) (fun _ _ _ h => h) (Or.inl ⟨by rfl, ?_⟩) hHeld ?_ ?_
                                           rotate_left
                                           · rintro w' ⟨s0, s1, s2, s3⟩
                                             go_simp; with_reducible rfl
                                           rotate_left
                                           · simp only [Act.put, zaa, zab, zac, zby, zbz]
                                             rfl
                                           refine take_ (i := 9) (N := some 153) (v := ?_) (a' := ?_) tajq rfl rfl (zcb HT_.out HW_.out (by kernel_rfl)) (fun _ _ _ h => h) (Or.inl ⟨by rfl, ?_⟩) hHeld ?_ ?_
                                           rotate_left
                                           · rintro w' ⟨s0, s1, s2, s3⟩
                                             go_simp; with_reducible rfl
                                           rotate_left
                                           · simp only [Act.put, zaa, zab, zac, zby, zbz]
                                             rfl
                                           refine one_ (i := 10) (N := some 154) #[true, true, true, true, true, true, true, true, true, true, true, false, false, false, false, false] rfl rfl (one_of HT_.out (by kernel_rfl)) (by decide) (fun K hK => ?_)
                                           refine goes_ Try.func28 (by kernel_rfl) rfl #[.slice A1503_0 (rd_L2 t1477 (ji51)).length c1503_0, .agg #[.int .i64 ((rd_T39 t1463 (ji51)).f0), .int .i64 ((rd_T39 t1463 (ji51)).f1), .int .i64 ((rd_T39 t1463 (ji51)).f2)]] (by rfl) rfl rfl (tabb) ?_
                                           with_reducible refine (impl_SquaresFall.calls k3 _ _ (rd_L2 t1477 (ji51)) ((rd_T39 t1463 (ji51)).f0) ((rd_T39 t1463 (ji51)).f1) ((rd_T39 t1463 (ji51)).f2) t1505 true _ ?side1 ?side2 A57.out).mono ?_
                                           (case side1 => exact tagf)
                                           (case side2 => exact HC1503_0.out)
                                           rintro e w74 ⟨rfl, hb⟩
                                           have HS0_ := (hb.cell (zaz _ _ (hHeld.1))).trans (hHeld.1)
                                           have HS1_ := (hb.cell (zaz _ _ (hHeld.2.1))).trans (hHeld.2.1)
                                           have HS2_ := (hb.cell (zaz _ _ (hHeld.2.2.1))).trans (hHeld.2.2.1)
                                           have HS3_ := (hb.cell (zaz _ _ (hHeld.2.2.2))).trans (hHeld.2.2.2)
                                           refine ⟨_, rfl, ?_⟩
                                           have n0_ := zad (zbv (taak) hb)
                                           have n1_ := zad (zbv (taai) hb)
                                           have n2_ := zad (zbv (taah) hb)
                                           have n3_ := zad (Kd.S_below (taao) hb)
                                           have n4_ := zad (Kd.S_below (taap) hb)
                                           have n5_ := zad (zbv (taat) hb)
                                           have n6_ := zad (zbv (tabz) hb)
                                           have n7_ := zad (zbv (taca) hb)
                                           have n8_ := zad (Kd.C_below (taal) hb)
                                           have n9_ := zad (Kd.C_below (taav) hb)
                                           have n10_ := zad (Kd.C_below (tabc) hb)
                                           have n11_ := zad (zbg (taab) hb)
                                           clear HO_5 HO_6 HO_7 HO_15 HO_110 HL1481_0 HL1498_0 HL1503_0 HR1481_0 HR1498_0 HR1503_0 HB; have HO_5 := n0_; have HO_6 := n1_; have HO_7 := n2_; have HO_15 := n3_; have HO_110 := n4_; have HL1481_0 := n5_; have HL1498_0 := n6_; have HL1503_0 := n7_; have HR1481_0 := n8_; have HR1498_0 := n9_; have HR1503_0 := n10_; have HB := n11_; clear n0_ n1_ n2_ n3_ n4_ n5_ n6_ n7_ n8_ n9_ n10_ n11_; (try clear hb); (try clear hb2); (try clear hk); (try clear hi); refine hK.out _ _ ⟨HS0_, HS1_, HS2_, HS3_⟩ (fun hHeld => ?_)
                                           clear hK K; refine norm_ (a' := ?_) ?_ ?_
                                           rotate_left
                                           · show Act.put _ (some 154) _ = _
                                             simp only [Act.put, zaa, zab, zac, zby, zbz]
                                             rfl
                                           refine pure_ (i := 11) (N := some 143) (v := ?_) (a' := ?_) tajr rfl rfl (zca HT_.out (by kernel_rfl)) (fun _ _ _ h => h) (Or.inl ⟨by rfl, ?_⟩) ?_ ?_
                                           rotate_left
                                           · intro w'
                                             go_simp; with_reducible rfl
                                           rotate_left
                                           · simp only [Act.put, zaa, zab, zac, zby, zbz]
                                             rfl
                                           refine pure_ (i := 12) (N := some 155) (v := ?_) (a' := ?_) tajs rfl rfl (zca HT_.out (by kernel_rfl)) (fun _ _ _ h => h) (Or.inl ⟨by rfl, ?_⟩) ?_ ?_
                                           rotate_left
                                           · intro w'
                                             go_simp; with_reducible rfl
                                           rotate_left
                                           · simp only [Act.put, zaa, zab, zac, zby, zbz]
                                             rfl
                                           refine pure_ (i := 13) (N := some 156) (v := ?_) (a' := ?_) tajt rfl rfl (zca HT_.out (by kernel_rfl)) (fun _ _ _ h => h) (Or.inl ⟨by rfl, ?_⟩) ?_ ?_
                                           rotate_left
                                           · intro w'
                                             go_simp; with_reducible rfl
                                           rotate_left
                                           · simp only [Act.put, zaa, zab, zac, zby, zbz]
                                             rfl
                                           refine pure_ (i := 14) (N := some 23) (v := ?_) (a' := ?_) taju rfl rfl (zca HT_.out (by kernel_rfl)) (fun _ _ _ h => h) (Or.inl ⟨by rfl, ?_⟩) ?_ ?_
                                           rotate_left
                                           · intro w'
                                             go_simp; with_reducible rfl
                                           rotate_left
                                           · simp only [Act.put, zaa, zab, zac, zby, zbz]
                                             rfl
                                           refine pure_ (i := 15) (N := some 24) (v := ?_) (a' := ?_) tajv rfl rfl (zca HT_.out (by kernel_rfl)) (fun _ _ _ h => h) (Or.inl ⟨by rfl, ?_⟩) ?_ ?_
                                           rotate_left
                                           · intro w'
                                             go_simp; with_reducible rfl
                                           rotate_left
                                           · simp only [Act.put, zaa, zab, zac, zby, zbz]
                                             rfl
                                           refine done_ (done_of HT_.out (by kernel_rfl)) ?_
                                           try go_wp2
                                           go_ret
                                           exact ⟨tacj, taab⟩
                                     · replace c60 := zbi.mpr c60
                                       subst c60; have H1 : (some false) = some r := by rw [if_neg (show ¬ (false = true) by decide)] at H; exact H
                                       clear H; have H := H1; clear H1; obtain rfl := zbe H
                                       have p1481 : 0 ≤ (x112_3 : Int) := zas (taaa)
                                       have q1481 : x112_3 < (t1477.length : Int) := zas (taaa)
                                       obtain ⟨ad1481, A1481_0, c1481_0, e1481, hx1481_0, hl1481_0, hi1481_0⟩ := at_L2 (Kd.S_reads' HO_110.out).2.2 x112_3 p1481 q1481
                                       cases e1481
                                       obtain ⟨ce1481, hce1481, hMe1481, hcc1481⟩ := Kd.S_get HO_110.out [] x112_3 p1481 (tafk)
                                       obtain ⟨ve1481_0, rfl, ge1481_0⟩ := hMe1481
                                       have hv1481_0 := hcc1481 0 _ rfl
                                       rw [Nat.add_zero, show ((Kd.slice 3 (Kd.int .i64))).sz = 1 from rfl, Nat.mul_one] at hv1481_0
                                       replace hv1481_0 := zbe (hv1481_0.symm.trans hx1481_0)
                                       rw [hv1481_0] at ge1481_0
                                       have HL1481_0 := zad (show Kd.R (Kd.int .i64) 3 _ _ _ _ (rd_L2 t1477 x112_3) from ge1481_0)
                                       clear hv1481_0 ge1481_0 hcc1481 hce1481; have HR1481_0 := zad hi1481_0; have HC1481_0 := zad hl1481_0; clear hi1481_0 hl1481_0; replace p1481 := eq_true p1481
                                       replace q1481 := eq_true q1481
                                       try go_wp2_with (first | ((with_reducible refine zbh (f := 22) rfl ?_); refine zbp (some 119) rfl rfl Try.func22 (by kernel_rfl) rfl #[.slice Ao10 t1457.length co10, .slice A1481_0 (rd_L2 t1477 x112_3).length c1481_0] rfl (taad) ?_; (with_reducible refine (laws_pBelow.calls k3 _ _ t1457 _ _ (rd_L2 t1477 x112_3) true _ ?side1 ?side2 ?side3 ?side4 A44.out).mono ?_); (case side1 => repeat (first | exact (zbf HO_5.out).2.2 | (with_reducible refine zal ?_ _) | (with_reducible refine zam ?_ _) | (with_reducible refine zan ?_))); (case side2 => exact (zbf HO_5.out).2.1); (case side3 => repeat (first | exact (taal) | (with_reducible refine zal ?_ _) | (with_reducible refine zam ?_ _) | (with_reducible refine zan ?_))); (case side4 => exact HC1481_0.out); rintro e w75 ⟨rfl, hb⟩; refine ⟨_, rfl, ?_⟩; have n0_ := zad (zbv (taak) hb); have n1_ := zad (zbv (taai) hb); have n2_ := zad (zbv (taah) hb); have n3_ := zad (Kd.S_below (taao) hb); have n4_ := zad (Kd.S_below (taap) hb); have n5_ := zad (zbv (taat) hb); have n6_ := zad (Kd.C_below (taal) hb); have n7_ := zad (zbg (taab) hb); clear HO_5 HO_6 HO_7 HO_15 HO_110 HL1481_0 HR1481_0 HB; have HO_5 := n0_; have HO_6 := n1_; have HO_7 := n2_; have HO_15 := n3_; have HO_110 := n4_; have HL1481_0 := n5_; have HR1481_0 := n6_; have HB := n7_; clear n0_ n1_ n2_ n3_ n4_ n5_ n6_ n7_; (try clear hb); (try clear hb2); (try clear hk); (try clear hi)) | (go_at_call 22; (with_reducible refine (laws_pBelow.calls k3 _ _ (rd_L2 t1477 x112_3) _ _ t1458 true _ ?side1 ?side2 ?side3 ?side4 A46.out).mono ?_); (case side1 => repeat (first | exact (taal) | (with_reducible refine zal ?_ _) | (with_reducible refine zam ?_ _) | (with_reducible refine zan ?_))); (case side2 => exact HC1481_0.out); (case side3 => repeat (first | exact (zbf HO_6.out).2.2 | (with_reducible refine zal ?_ _) | (with_reducible refine zam ?_ _) | (with_reducible refine zan ?_))); (case side4 => exact (zbf HO_6.out).2.1); rintro e w76 ⟨rfl, hb⟩; have n0_ := zad (zbv (taak) hb); have n1_ := zad (zbv (taai) hb); have n2_ := zad (zbv (taah) hb); have n3_ := zad (Kd.S_below (taao) hb); have n4_ := zad (Kd.S_below (taap) hb); have n5_ := zad (zbv (taat) hb); have n6_ := zad (Kd.C_below (taal) hb); have n7_ := zad (zbg (taab) hb); clear HO_5 HO_6 HO_7 HO_15 HO_110 HL1481_0 HR1481_0 HB; have HO_5 := n0_; have HO_6 := n1_; have HO_7 := n2_; have HO_15 := n3_; have HO_110 := n4_; have HL1481_0 := n5_; have HR1481_0 := n6_; have HB := n7_; clear n0_ n1_ n2_ n3_ n4_ n5_ n6_ n7_; (try clear hb); (try clear hb2); (try clear hk); (try clear hi); have p1498 : 0 ≤ ((ji51) : Int) := zas (taaa); have q1498 : (ji51) < (t1477.length : Int) := zas (taaa); obtain ⟨ad1498, A1498_0, c1498_0, e1498, hx1498_0, hl1498_0, hi1498_0⟩ := at_L2 (Kd.S_reads' HO_15.out).2.2 (ji51) p1498 q1498; obtain rfl : ad1481 = ad1498 := (by injection e1498); obtain ⟨ce1498, hce1498, hMe1498, hcc1498⟩ := Kd.S_get HO_15.out [] (ji51) p1498 (tafn); obtain ⟨ve1498_0, rfl, ge1498_0⟩ := hMe1498; have hv1498_0 := hcc1498 0 _ rfl; rw [Nat.add_zero, show ((Kd.slice 3 (Kd.int .i64))).sz = 1 from rfl, Nat.mul_one] at hv1498_0; replace hv1498_0 := zbe (hv1498_0.symm.trans hx1498_0); rw [hv1498_0] at ge1498_0; have HL1498_0 := zad (show Kd.R (Kd.int .i64) 3 _ _ _ _ (rd_L2 t1477 (ji51)) from ge1498_0); clear hv1498_0 ge1498_0 hcc1498 hce1498; have HR1498_0 := zad hi1498_0; have HC1498_0 := zad hl1498_0; clear hi1498_0 hl1498_0; replace p1498 := eq_true p1498; replace q1498 := eq_true q1498) | ((with_reducible refine zbh (f := 36) rfl ?_); refine zbp (some 135) rfl rfl Try.func36 (by kernel_rfl) rfl #[.slice A1498_0 (rd_L2 t1477 (ji51)).length c1498_0] rfl (tabb) ?_; (with_reducible refine (impl_SquareSum.calls k3 _ _ (rd_L2 t1477 (ji51)) t1499 true _ ?side1 ?side2 A54.out).mono ?_); (case side1 => repeat (first | exact (taav) | (with_reducible refine zal ?_ _) | (with_reducible refine zam ?_ _) | (with_reducible refine zan ?_))); (case side2 => exact HC1498_0.out); rintro e w' ⟨rfl, ⟨nd, rfl⟩⟩; refine ⟨_, rfl, ?_⟩) | ((with_reducible refine zbh (f := 36) rfl ?_); refine zbp (some 140) rfl rfl Try.func36 (by kernel_rfl) rfl #[.slice A1481_0 (rd_L2 t1477 x112_3).length c1481_0] rfl (taad) ?_; (with_reducible refine (impl_SquareSum.calls k3 _ _ (rd_L2 t1477 x112_3) t1501 true _ ?side1 ?side2 A55.out).mono ?_); (case side1 => repeat (first | exact (taal) | (with_reducible refine zal ?_ _) | (with_reducible refine zam ?_ _) | (with_reducible refine zan ?_))); (case side2 => exact HC1481_0.out); rintro e w' ⟨rfl, ⟨nd, rfl⟩⟩; refine ⟨_, rfl, ?_⟩))
                                       (try (rw [drewN_self w76]; generalize hq_ : World.drewN w76 _ = w76; have n0_ : Aside0 (Kd.R (Kd.int .i64) 3 w76 w.heap.size (fun k_ => some k_ ≠ (.slice (some ad1481) t1477.length co40 : Value).ownBlock ∧ some k_ ≠ (.slice Ao10 t1457.length co10 : Value).ownBlock ∧ some k_ ≠ (.slice Ao11 t1458.length co11 : Value).ownBlock) (.slice A1481_0 (rd_L2 t1477 x112_3).length c1481_0) (rd_L2 t1477 x112_3)) := ⟨tafo⟩; have n1_ : Aside0 (Kd.R (Kd.int .i64) 3 w76 w.heap.size (fun k_ => some k_ ≠ (.slice (some ad1481) t1477.length co40 : Value).ownBlock ∧ some k_ ≠ (.slice Ao10 t1457.length co10 : Value).ownBlock ∧ some k_ ≠ (.slice Ao11 t1458.length co11 : Value).ownBlock) (.slice A1498_0 (rd_L2 t1477 (ji51)).length c1498_0) (rd_L2 t1477 (ji51))) := ⟨tafp⟩; have n2_ : Aside0 (Kd.S (Kd.slice 3 (Kd.int .i64)) 26 w76 w.heap.size (fun k_ => some k_ ≠ (.slice Ao10 t1457.length co10 : Value).ownBlock ∧ some k_ ≠ (.slice Ao11 t1458.length co11 : Value).ownBlock) (.slice (some ad1481) t1477.length co40) t1477) := ⟨tafq⟩; have n3_ : Aside0 (Kd.S (Kd.slice 3 (Kd.int .i64)) 26 w76 w.heap.size (fun k_ => some k_ ≠ (.slice Ao10 t1457.length co10 : Value).ownBlock ∧ some k_ ≠ (.slice Ao11 t1458.length co11 : Value).ownBlock) (.slice (some ad1481) t1477.length co40) t1477) := ⟨tafr⟩; have n4_ : Aside0 (Kd.R (Kd.int .i64) 3 w76 w.heap.size (fun k_ => some k_ ≠ (.slice Ao11 t1458.length co11 : Value).ownBlock) (.slice Ao10 t1457.length co10) t1457) := ⟨tafs⟩; have n5_ : Aside0 (Kd.R (Kd.int .i64) 3 w76 w.heap.size (fun k_ => some k_ ≠ (.slice Ao10 t1457.length co10 : Value).ownBlock) (.slice Ao11 t1458.length co11) t1458) := ⟨taft⟩; have n6_ : Aside0 (Kd.R k39 39 w76 w.heap.size (fun _ => True) (.slice Ao30 t1463.length co30) t1463) := ⟨tafl⟩; have n7_ : Aside0 (Below w.heap.size w w76) := ⟨tafm⟩; have n8_ : Aside0 (Kd.C (Kd.int .i64) w76 A1481_0 (rd_L2 t1477 x112_3).length (rd_L2 t1477 x112_3)) := ⟨tafu⟩; have n9_ : Aside0 (Kd.C (Kd.int .i64) w76 A1498_0 (rd_L2 t1477 (ji51)).length (rd_L2 t1477 (ji51))) := ⟨tafv⟩; clear HL1481_0 HL1498_0 HO_110 HO_15 HO_5 HO_6 HO_7 HB HR1481_0 HR1498_0 hq_; have HL1481_0 := n0_; have HL1498_0 := n1_; have HO_110 := n2_; have HO_15 := n3_; have HO_5 := n4_; have HO_6 := n5_; have HO_7 := n6_; have HB := n7_; have HR1481_0 := n8_; have HR1498_0 := n9_; clear n0_ n1_ n2_ n3_ n4_ n5_ n6_ n7_ n8_ n9_))
                                       have n0_ := zad (zak HO_5.out)
                                       have n1_ := zad (zak HO_6.out)
                                       have n2_ := zad (zak HO_7.out)
                                       have n3_ := zad (Kd.S_drew HO_15.out)
                                       have n4_ := zad (Kd.S_drew HO_110.out)
                                       have n5_ := zad (zak HL1481_0.out)
                                       have n6_ := zad (zak HL1498_0.out)
                                       have n7_ := zad (zan HR1481_0.out)
                                       have n8_ := zad (zan HR1498_0.out)
                                       have n9_ := zad (zaf HB.out)
                                       clear HO_5 HO_6 HO_7 HO_15 HO_110 HL1481_0 HL1498_0 HR1481_0 HR1498_0 HB; have HO_5 := n0_; have HO_6 := n1_; have HO_7 := n2_; have HO_15 := n3_; have HO_110 := n4_; have HL1481_0 := n5_; have HL1498_0 := n6_; have HR1481_0 := n7_; have HR1498_0 := n8_; have HB := n9_; clear n0_ n1_ n2_ n3_ n4_ n5_ n6_ n7_ n8_ n9_; have p1503 : 0 ≤ ((ji51) : Int) := zas (taaa)
                                       have q1503 : (ji51) < (t1477.length : Int) := zas (taaa)
                                       obtain ⟨ad1503, A1503_0, c1503_0, e1503, hx1503_0, hl1503_0, hi1503_0⟩ := at_L2 (Kd.S_reads' HO_15.out).2.2 (ji51) p1503 q1503
                                       obtain rfl : ad1481 = ad1503 := (by injection e1503)
                                       obtain ⟨ce1503, hce1503, hMe1503, hcc1503⟩ := Kd.S_get HO_15.out [] (ji51) p1503 (tafw)
                                       obtain ⟨ve1503_0, rfl, ge1503_0⟩ := hMe1503
                                       have hv1503_0 := hcc1503 0 _ rfl
                                       rw [Nat.add_zero, show ((Kd.slice 3 (Kd.int .i64))).sz = 1 from rfl, Nat.mul_one] at hv1503_0
                                       replace hv1503_0 := zbe (hv1503_0.symm.trans hx1503_0)
                                       rw [hv1503_0] at ge1503_0
                                       have HL1503_0 := zad (show Kd.R (Kd.int .i64) 3 _ _ _ _ (rd_L2 t1477 (ji51)) from ge1503_0)
                                       clear hv1503_0 ge1503_0 hcc1503 hce1503; have HR1503_0 := zad hi1503_0; have HC1503_0 := zad hl1503_0; clear hi1503_0 hl1503_0; replace p1503 := eq_true p1503
                                       replace q1503 := eq_true q1503
                                       have p1504 : 0 ≤ ((ji51) : Int) := zas (taaa)
                                       have q1504 : (ji51) < (t1463.length : Int) := zas (taaa)
                                       obtain ⟨ad1504, e1504, hx1504_0, hx1504_1, hx1504_2⟩ := at_T39 (zbf HO_7.out).2.2 (ji51) p1504 q1504
                                       cases e1504
                                       replace p1504 := eq_true p1504
                                       replace q1504 := eq_true q1504
                                       refine start_ (n := 16) (S := fun w' => w'.cell? (ad1481.add ((ji51)).toNat) = some (.slice A1503_0 (rd_L2 t1477 (ji51)).length c1503_0) ∧ w'.cell? (ad1504.add (((ji51)).toNat * 3)) = some (.int .i64 ((rd_T39 t1463 (ji51)).f0)) ∧ w'.cell? ⟨(ad1504.add (((ji51)).toNat * 3)).block, (ad1504.add (((ji51)).toNat * 3)).off + 1, none⟩ = some (.int .i64 ((rd_T39 t1463 (ji51)).f1)) ∧ w'.cell? ⟨(ad1504.add (((ji51)).toNat * 3)).block, (ad1504.add (((ji51)).toNat * 3)).off + 2, none⟩ = some (.int .i64 ((rd_T39 t1463 (ji51)).f2))) (ds := []) #[false, false, false, false, false, false, false, false, false, false, false, false, false, false, false, false] (by kernel_rfl) rfl rfl ⟨hx1503_0, hx1504_0, hx1504_1, hx1504_2⟩ (fun hHeld => ?_); refine with_tabW laws_FnGiftPathsExist.tab23 laws_FnGiftPathsExist.bits23 (fun HT_ HW_ => ?_)
                                       generalize w76.drew = w77 at HO_5 HO_6 HO_7 HO_15 HO_110 HL1481_0 HL1498_0 HR1481_0 HR1498_0 HB HL1503_0 HR1503_0 hx1503_0 hx1504_0 hx1504_1 hx1504_2 hHeld ⊢
                                       refine pure_ (i := 0) (N := some 144) (v := ?_) (a' := ?_) tajh rfl rfl (zca HT_.out (by kernel_rfl)) (fun _ _ _ h => h) (Or.inl ⟨by rfl, ?_⟩) ?_ ?_
                                       rotate_left
                                       · intro w'
                                         go_simp; with_reducible rfl
                                       rotate_left
                                       · simp only [Act.put, zaa, zab, zac, zby, zbz]
                                         rfl
                                       refine pure_ (i := 1) (N := some 145) (v := ?_) (a' := ?_) taji rfl rfl (zca HT_.out (by kernel_rfl)) (fun _ _ _ h => h) (Or.inl ⟨by rfl, ?_⟩) ?_ ?_
                                       rotate_left
                                       · intro w'
                                         go_simp; with_reducible rfl
                                       rotate_left
                                       · simp only [Act.put, zaa, zab, zac, zby, zbz]
                                         rfl
                                       refine pure_ (i := 2) (N := some 146) (v := ?_) (a' := ?_) tajj rfl rfl (zca HT_.out (by kernel_rfl)) (fun _ _ _ h => h) (Or.inl ⟨by rfl, ?_⟩) ?_ ?_
                                       rotate_left
                                       · intro w'
                                         go_simp; with_reducible rfl
                                       rotate_left
                                       · simp only [Act.put, zaa, zab, zac, zby, zbz]
                                         rfl
                                       refine pure_ (i := 3) (N := some 147) (v := ?_) (a' := ?_) tajk rfl rfl (zca HT_.out (by kernel_rfl)) (fun _ _ _ h => h) (Or.inl ⟨by rfl, ?_⟩) ?_ ?_
                                       rotate_left
                                       · intro w'
                                         go_simp; with_reducible rfl
                                       rotate_left
                                       · simp only [Act.put, zaa, zab, zac, zby, zbz]
                                         rfl
                                       refine pure_ (i := 5) (N := some 149) (v := ?_) (a' := ?_) tajl rfl rfl (zca HT_.out (by kernel_rfl)) (fun _ _ _ h => h) (Or.inl ⟨by rfl, ?_⟩) ?_ ?_
                                       rotate_left
                                       · intro w'
                                         go_simp; with_reducible rfl
                                       rotate_left
                                       · simp only [Act.put, zaa, zab, zac, zby, zbz]
                                         rfl
                                       refine pure_ (i := 6) (N := some 150) (v := ?_) (a' := ?_) tajm rfl rfl (zca HT_.out (by kernel_rfl)) (fun _ _ _ h => h) (Or.inl ⟨by rfl, ?_⟩) ?_ ?_
                                       rotate_left
                                       · intro w'
                                         go_simp; with_reducible rfl
                                       rotate_left
                                       · simp only [Act.put, zaa, zab, zac, zby, zbz]
                                         rfl
                                       refine pure_ (i := 7) (N := some 151) (v := ?_) (a' := ?_) tajn rfl rfl (zca HT_.out (by kernel_rfl)) (fun _ _ _ h => h) (Or.inl ⟨by rfl, ?_⟩) ?_ ?_
                                       rotate_left
                                       · intro w'
                                         go_simp; with_reducible rfl
                                       rotate_left
                                       · simp only [Act.put, zaa, zab, zac, zby, zbz]
                                         rfl
                                       refine pure_ (i := 8) (N := some 152) (v := ?_) (a' := ?_) tajo rfl rfl (zca HT_.out (by kernel_rfl)) (fun _ _ _ h => h) (Or.inl ⟨by rfl, ?_⟩) ?_ ?_
                                       rotate_left
                                       · intro w'
                                         go_simp; with_reducible rfl
                                       rotate_left
                                       · simp only [Act.put, zaa, zab, zac, zby, zbz]
                                         rfl
                                       refine take_ (i := 4) (N := some 148) (v := ?_) (a' := ?_) tajp rfl rfl (zcb HT_.out HW_.out (by kernel_rfl)) (fun _ _ _ h => h) (Or.inl ⟨by rfl, ?_⟩) hHeld ?_ ?_
                                       rotate_left
                                       · rintro w' ⟨s0, s1, s2, s3⟩
                                         go_simp; with_reducible rfl
                                       rotate_left
                                       · simp only [Act.put, zaa, zab, zac, zby, zbz]
                                         rfl
                                       refine take_ (i := 9) (N := some 153) (v := ?_) (a' := ?_) tajq rfl rfl (zcb HT_.out HW_.out (by kernel_rfl)) (fun _ _ _ h => h) (Or.inl ⟨by rfl, ?_⟩) hHeld ?_ ?_
                                       rotate_left
                                       · rintro w' ⟨s0, s1, s2, s3⟩
                                         go_simp; with_reducible rfl
                                       rotate_left
                                       · simp only [Act.put, zaa, zab, zac, zby, zbz]
                                         rfl
                                       refine one_ (i := 10) (N := some 154) #[true, true, true, true, true, true, true, true, true, true, true, false, false, false, false, false] rfl rfl (one_of HT_.out (by kernel_rfl)) (by decide) (fun K hK => ?_)
                                       refine goes_ Try.func28 (by kernel_rfl) rfl #[.slice A1503_0 (rd_L2 t1477 (ji51)).length c1503_0, .agg #[.int .i64 ((rd_T39 t1463 (ji51)).f0), .int .i64 ((rd_T39 t1463 (ji51)).f1), .int .i64 ((rd_T39 t1463 (ji51)).f2)]] (by rfl) rfl rfl (tabb) ?_
                                       with_reducible refine (impl_SquaresFall.calls k3 _ _ (rd_L2 t1477 (ji51)) ((rd_T39 t1463 (ji51)).f0) ((rd_T39 t1463 (ji51)).f1) ((rd_T39 t1463 (ji51)).f2) t1505 false _ ?side1 ?side2 A57.out).mono ?_
                                       (case side1 => exact tagf)
                                       (case side2 => exact HC1503_0.out)
                                       rintro e w78 ⟨rfl, hb⟩
                                       have HS0_ := (hb.cell (zaz _ _ (hHeld.1))).trans (hHeld.1)
                                       have HS1_ := (hb.cell (zaz _ _ (hHeld.2.1))).trans (hHeld.2.1)
                                       have HS2_ := (hb.cell (zaz _ _ (hHeld.2.2.1))).trans (hHeld.2.2.1)
                                       have HS3_ := (hb.cell (zaz _ _ (hHeld.2.2.2))).trans (hHeld.2.2.2)
                                       refine ⟨_, rfl, ?_⟩
                                       have n0_ := zad (zbv (taak) hb)
                                       have n1_ := zad (zbv (taai) hb)
                                       have n2_ := zad (zbv (taah) hb)
                                       have n3_ := zad (Kd.S_below (taao) hb)
                                       have n4_ := zad (Kd.S_below (taap) hb)
                                       have n5_ := zad (zbv (taat) hb)
                                       have n6_ := zad (zbv (tabz) hb)
                                       have n7_ := zad (zbv (taca) hb)
                                       have n8_ := zad (Kd.C_below (taal) hb)
                                       have n9_ := zad (Kd.C_below (taav) hb)
                                       have n10_ := zad (Kd.C_below (tabc) hb)
                                       have n11_ := zad (zbg (taab) hb)
                                       clear HO_5 HO_6 HO_7 HO_15 HO_110 HL1481_0 HL1498_0 HL1503_0 HR1481_0 HR1498_0 HR1503_0 HB; have HO_5 := n0_; have HO_6 := n1_; have HO_7 := n2_; have HO_15 := n3_; have HO_110 := n4_; have HL1481_0 := n5_; have HL1498_0 := n6_; have HL1503_0 := n7_; have HR1481_0 := n8_; have HR1498_0 := n9_; have HR1503_0 := n10_; have HB := n11_; clear n0_ n1_ n2_ n3_ n4_ n5_ n6_ n7_ n8_ n9_ n10_ n11_; (try clear hb); (try clear hb2); (try clear hk); (try clear hi); refine hK.out _ _ ⟨HS0_, HS1_, HS2_, HS3_⟩ (fun hHeld => ?_)
                                       clear hK K; refine norm_ (a' := ?_) ?_ ?_
                                       rotate_left
                                       · show Act.put _ (some 154) _ = _
                                         simp only [Act.put, zaa, zab, zac, zby, zbz]
                                         rfl
                                       refine pure_ (i := 11) (N := some 143) (v := ?_) (a' := ?_) tajr rfl rfl (zca HT_.out (by kernel_rfl)) (fun _ _ _ h => h) (Or.inl ⟨by rfl, ?_⟩) ?_ ?_
                                       rotate_left
                                       · intro w'
                                         go_simp; with_reducible rfl
                                       rotate_left
                                       · simp only [Act.put, zaa, zab, zac, zby, zbz]
                                         rfl
                                       refine pure_ (i := 12) (N := some 155) (v := ?_) (a' := ?_) tajs rfl rfl (zca HT_.out (by kernel_rfl)) (fun _ _ _ h => h) (Or.inl ⟨by rfl, ?_⟩) ?_ ?_
                                       rotate_left
                                       · intro w'
                                         go_simp; with_reducible rfl
                                       rotate_left
                                       · simp only [Act.put, zaa, zab, zac, zby, zbz]
                                         rfl
                                       refine pure_ (i := 13) (N := some 156) (v := ?_) (a' := ?_) tajt rfl rfl (zca HT_.out (by kernel_rfl)) (fun _ _ _ h => h) (Or.inl ⟨by rfl, ?_⟩) ?_ ?_
                                       rotate_left
                                       · intro w'
                                         go_simp; with_reducible rfl
                                       rotate_left
                                       · simp only [Act.put, zaa, zab, zac, zby, zbz]
                                         rfl
                                       refine pure_ (i := 14) (N := some 23) (v := ?_) (a' := ?_) taju rfl rfl (zca HT_.out (by kernel_rfl)) (fun _ _ _ h => h) (Or.inl ⟨by rfl, ?_⟩) ?_ ?_
                                       rotate_left
                                       · intro w'
                                         go_simp; with_reducible rfl
                                       rotate_left
                                       · simp only [Act.put, zaa, zab, zac, zby, zbz]
                                         rfl
                                       refine pure_ (i := 15) (N := some 24) (v := ?_) (a' := ?_) tajv rfl rfl (zca HT_.out (by kernel_rfl)) (fun _ _ _ h => h) (Or.inl ⟨by rfl, ?_⟩) ?_ ?_
                                       rotate_left
                                       · intro w'
                                         go_simp; with_reducible rfl
                                       rotate_left
                                       · simp only [Act.put, zaa, zab, zac, zby, zbz]
                                         rfl
                                       refine done_ (done_of HT_.out (by kernel_rfl)) ?_
                                       try go_wp2
                                       go_ret
                                       exact ⟨tacj, taab⟩
                                   · replace c59 := zbi.mpr c59
                                     subst c59; have H1 : (some false) = some r := by rw [if_neg (show ¬ (false = true) by decide)] at H; exact H
                                     clear H; have H := H1; clear H1; obtain rfl := zbe H
                                     have p1481 : 0 ≤ (x112_3 : Int) := zas (taaa)
                                     have q1481 : x112_3 < (t1477.length : Int) := zas (taaa)
                                     obtain ⟨ad1481, A1481_0, c1481_0, e1481, hx1481_0, hl1481_0, hi1481_0⟩ := at_L2 (Kd.S_reads' HO_110.out).2.2 x112_3 p1481 q1481
                                     cases e1481
                                     obtain ⟨ce1481, hce1481, hMe1481, hcc1481⟩ := Kd.S_get HO_110.out [] x112_3 p1481 (tafk)
                                     obtain ⟨ve1481_0, rfl, ge1481_0⟩ := hMe1481
                                     have hv1481_0 := hcc1481 0 _ rfl
                                     rw [Nat.add_zero, show ((Kd.slice 3 (Kd.int .i64))).sz = 1 from rfl, Nat.mul_one] at hv1481_0
                                     replace hv1481_0 := zbe (hv1481_0.symm.trans hx1481_0)
                                     rw [hv1481_0] at ge1481_0
                                     have HL1481_0 := zad (show Kd.R (Kd.int .i64) 3 _ _ _ _ (rd_L2 t1477 x112_3) from ge1481_0)
                                     clear hv1481_0 ge1481_0 hcc1481 hce1481; have HR1481_0 := zad hi1481_0; have HC1481_0 := zad hl1481_0; clear hi1481_0 hl1481_0; replace p1481 := eq_true p1481
                                     replace q1481 := eq_true q1481
                                     try go_wp2_with (first | ((with_reducible refine zbh (f := 22) rfl ?_); refine zbp (some 119) rfl rfl Try.func22 (by kernel_rfl) rfl #[.slice Ao10 t1457.length co10, .slice A1481_0 (rd_L2 t1477 x112_3).length c1481_0] rfl (taad) ?_; (with_reducible refine (laws_pBelow.calls k3 _ _ t1457 _ _ (rd_L2 t1477 x112_3) true _ ?side1 ?side2 ?side3 ?side4 A44.out).mono ?_); (case side1 => repeat (first | exact (zbf HO_5.out).2.2 | (with_reducible refine zal ?_ _) | (with_reducible refine zam ?_ _) | (with_reducible refine zan ?_))); (case side2 => exact (zbf HO_5.out).2.1); (case side3 => repeat (first | exact (taal) | (with_reducible refine zal ?_ _) | (with_reducible refine zam ?_ _) | (with_reducible refine zan ?_))); (case side4 => exact HC1481_0.out); rintro e w79 ⟨rfl, hb⟩; refine ⟨_, rfl, ?_⟩; have n0_ := zad (zbv (taak) hb); have n1_ := zad (zbv (taai) hb); have n2_ := zad (zbv (taah) hb); have n3_ := zad (Kd.S_below (taao) hb); have n4_ := zad (Kd.S_below (taap) hb); have n5_ := zad (zbv (taat) hb); have n6_ := zad (Kd.C_below (taal) hb); have n7_ := zad (zbg (taab) hb); clear HO_5 HO_6 HO_7 HO_15 HO_110 HL1481_0 HR1481_0 HB; have HO_5 := n0_; have HO_6 := n1_; have HO_7 := n2_; have HO_15 := n3_; have HO_110 := n4_; have HL1481_0 := n5_; have HR1481_0 := n6_; have HB := n7_; clear n0_ n1_ n2_ n3_ n4_ n5_ n6_ n7_; (try clear hb); (try clear hb2); (try clear hk); (try clear hi)) | (go_at_call 22; (with_reducible refine (laws_pBelow.calls k3 _ _ (rd_L2 t1477 x112_3) _ _ t1458 true _ ?side1 ?side2 ?side3 ?side4 A46.out).mono ?_); (case side1 => repeat (first | exact (taal) | (with_reducible refine zal ?_ _) | (with_reducible refine zam ?_ _) | (with_reducible refine zan ?_))); (case side2 => exact HC1481_0.out); (case side3 => repeat (first | exact (zbf HO_6.out).2.2 | (with_reducible refine zal ?_ _) | (with_reducible refine zam ?_ _) | (with_reducible refine zan ?_))); (case side4 => exact (zbf HO_6.out).2.1); rintro e w80 ⟨rfl, hb⟩; have n0_ := zad (zbv (taak) hb); have n1_ := zad (zbv (taai) hb); have n2_ := zad (zbv (taah) hb); have n3_ := zad (Kd.S_below (taao) hb); have n4_ := zad (Kd.S_below (taap) hb); have n5_ := zad (zbv (taat) hb); have n6_ := zad (Kd.C_below (taal) hb); have n7_ := zad (zbg (taab) hb); clear HO_5 HO_6 HO_7 HO_15 HO_110 HL1481_0 HR1481_0 HB; have HO_5 := n0_; have HO_6 := n1_; have HO_7 := n2_; have HO_15 := n3_; have HO_110 := n4_; have HL1481_0 := n5_; have HR1481_0 := n6_; have HB := n7_; clear n0_ n1_ n2_ n3_ n4_ n5_ n6_ n7_; (try clear hb); (try clear hb2); (try clear hk); (try clear hi); have p1498 : 0 ≤ ((ji51) : Int) := zas (taaa); have q1498 : (ji51) < (t1477.length : Int) := zas (taaa); obtain ⟨ad1498, A1498_0, c1498_0, e1498, hx1498_0, hl1498_0, hi1498_0⟩ := at_L2 (Kd.S_reads' HO_15.out).2.2 (ji51) p1498 q1498; obtain rfl : ad1481 = ad1498 := (by injection e1498); obtain ⟨ce1498, hce1498, hMe1498, hcc1498⟩ := Kd.S_get HO_15.out [] (ji51) p1498 (tafn); obtain ⟨ve1498_0, rfl, ge1498_0⟩ := hMe1498; have hv1498_0 := hcc1498 0 _ rfl; rw [Nat.add_zero, show ((Kd.slice 3 (Kd.int .i64))).sz = 1 from rfl, Nat.mul_one] at hv1498_0; replace hv1498_0 := zbe (hv1498_0.symm.trans hx1498_0); rw [hv1498_0] at ge1498_0; have HL1498_0 := zad (show Kd.R (Kd.int .i64) 3 _ _ _ _ (rd_L2 t1477 (ji51)) from ge1498_0); clear hv1498_0 ge1498_0 hcc1498 hce1498; have HR1498_0 := zad hi1498_0; have HC1498_0 := zad hl1498_0; clear hi1498_0 hl1498_0; replace p1498 := eq_true p1498; replace q1498 := eq_true q1498) | ((with_reducible refine zbh (f := 36) rfl ?_); refine zbp (some 135) rfl rfl Try.func36 (by kernel_rfl) rfl #[.slice A1498_0 (rd_L2 t1477 (ji51)).length c1498_0] rfl (tabb) ?_; (with_reducible refine (impl_SquareSum.calls k3 _ _ (rd_L2 t1477 (ji51)) t1499 true _ ?side1 ?side2 A54.out).mono ?_); (case side1 => repeat (first | exact (taav) | (with_reducible refine zal ?_ _) | (with_reducible refine zam ?_ _) | (with_reducible refine zan ?_))); (case side2 => exact HC1498_0.out); rintro e w' ⟨rfl, ⟨nd, rfl⟩⟩; refine ⟨_, rfl, ?_⟩) | ((with_reducible refine zbh (f := 36) rfl ?_); refine zbp (some 140) rfl rfl Try.func36 (by kernel_rfl) rfl #[.slice A1481_0 (rd_L2 t1477 x112_3).length c1481_0] rfl (taad) ?_; (with_reducible refine (impl_SquareSum.calls k3 _ _ (rd_L2 t1477 x112_3) t1501 false _ ?side1 ?side2 A55.out).mono ?_); (case side1 => repeat (first | exact (taal) | (with_reducible refine zal ?_ _) | (with_reducible refine zam ?_ _) | (with_reducible refine zan ?_))); (case side2 => exact HC1481_0.out); rintro e w' ⟨rfl, ⟨nd, rfl⟩⟩; refine ⟨_, rfl, ?_⟩))
                                     (try (rw [drewN_self w80]; generalize hq_ : World.drewN w80 _ = w80; have n0_ : Aside0 (Kd.R (Kd.int .i64) 3 w80 w.heap.size (fun k_ => some k_ ≠ (.slice (some ad1481) t1477.length co40 : Value).ownBlock ∧ some k_ ≠ (.slice Ao10 t1457.length co10 : Value).ownBlock ∧ some k_ ≠ (.slice Ao11 t1458.length co11 : Value).ownBlock) (.slice A1481_0 (rd_L2 t1477 x112_3).length c1481_0) (rd_L2 t1477 x112_3)) := ⟨tafo⟩; have n1_ : Aside0 (Kd.R (Kd.int .i64) 3 w80 w.heap.size (fun k_ => some k_ ≠ (.slice (some ad1481) t1477.length co40 : Value).ownBlock ∧ some k_ ≠ (.slice Ao10 t1457.length co10 : Value).ownBlock ∧ some k_ ≠ (.slice Ao11 t1458.length co11 : Value).ownBlock) (.slice A1498_0 (rd_L2 t1477 (ji51)).length c1498_0) (rd_L2 t1477 (ji51))) := ⟨tafp⟩; have n2_ : Aside0 (Kd.S (Kd.slice 3 (Kd.int .i64)) 26 w80 w.heap.size (fun k_ => some k_ ≠ (.slice Ao10 t1457.length co10 : Value).ownBlock ∧ some k_ ≠ (.slice Ao11 t1458.length co11 : Value).ownBlock) (.slice (some ad1481) t1477.length co40) t1477) := ⟨tafq⟩; have n3_ : Aside0 (Kd.S (Kd.slice 3 (Kd.int .i64)) 26 w80 w.heap.size (fun k_ => some k_ ≠ (.slice Ao10 t1457.length co10 : Value).ownBlock ∧ some k_ ≠ (.slice Ao11 t1458.length co11 : Value).ownBlock) (.slice (some ad1481) t1477.length co40) t1477) := ⟨tafr⟩; have n4_ : Aside0 (Kd.R (Kd.int .i64) 3 w80 w.heap.size (fun k_ => some k_ ≠ (.slice Ao11 t1458.length co11 : Value).ownBlock) (.slice Ao10 t1457.length co10) t1457) := ⟨tafs⟩; have n5_ : Aside0 (Kd.R (Kd.int .i64) 3 w80 w.heap.size (fun k_ => some k_ ≠ (.slice Ao10 t1457.length co10 : Value).ownBlock) (.slice Ao11 t1458.length co11) t1458) := ⟨taft⟩; have n6_ : Aside0 (Kd.R k39 39 w80 w.heap.size (fun _ => True) (.slice Ao30 t1463.length co30) t1463) := ⟨tafl⟩; have n7_ : Aside0 (Below w.heap.size w w80) := ⟨tafm⟩; have n8_ : Aside0 (Kd.C (Kd.int .i64) w80 A1481_0 (rd_L2 t1477 x112_3).length (rd_L2 t1477 x112_3)) := ⟨tafu⟩; have n9_ : Aside0 (Kd.C (Kd.int .i64) w80 A1498_0 (rd_L2 t1477 (ji51)).length (rd_L2 t1477 (ji51))) := ⟨tafv⟩; clear HL1481_0 HL1498_0 HO_110 HO_15 HO_5 HO_6 HO_7 HB HR1481_0 HR1498_0 hq_; have HL1481_0 := n0_; have HL1498_0 := n1_; have HO_110 := n2_; have HO_15 := n3_; have HO_5 := n4_; have HO_6 := n5_; have HO_7 := n6_; have HB := n7_; have HR1481_0 := n8_; have HR1498_0 := n9_; clear n0_ n1_ n2_ n3_ n4_ n5_ n6_ n7_ n8_ n9_))
                                     have n0_ := zad (zak HO_5.out)
                                     have n1_ := zad (zak HO_6.out)
                                     have n2_ := zad (zak HO_7.out)
                                     have n3_ := zad (Kd.S_drew HO_15.out)
                                     have n4_ := zad (Kd.S_drew HO_110.out)
                                     have n5_ := zad (zak HL1481_0.out)
                                     have n6_ := zad (zak HL1498_0.out)
                                     have n7_ := zad (zan HR1481_0.out)
                                     have n8_ := zad (zan HR1498_0.out)
                                     have n9_ := zad (zaf HB.out)
                                     clear HO_5 HO_6 HO_7 HO_15 HO_110 HL1481_0 HL1498_0 HR1481_0 HR1498_0 HB; have HO_5 := n0_; have HO_6 := n1_; have HO_7 := n2_; have HO_15 := n3_; have HO_110 := n4_; have HL1481_0 := n5_; have HL1498_0 := n6_; have HR1481_0 := n7_; have HR1498_0 := n8_; have HB := n9_; clear n0_ n1_ n2_ n3_ n4_ n5_ n6_ n7_ n8_ n9_; have p1503 : 0 ≤ ((ji51) : Int) := zas (taaa)
                                     have q1503 : (ji51) < (t1477.length : Int) := zas (taaa)
                                     obtain ⟨ad1503, A1503_0, c1503_0, e1503, hx1503_0, hl1503_0, hi1503_0⟩ := at_L2 (Kd.S_reads' HO_15.out).2.2 (ji51) p1503 q1503
                                     obtain rfl : ad1481 = ad1503 := (by injection e1503)
                                     obtain ⟨ce1503, hce1503, hMe1503, hcc1503⟩ := Kd.S_get HO_15.out [] (ji51) p1503 (tafw)
                                     obtain ⟨ve1503_0, rfl, ge1503_0⟩ := hMe1503
                                     have hv1503_0 := hcc1503 0 _ rfl
                                     rw [Nat.add_zero, show ((Kd.slice 3 (Kd.int .i64))).sz = 1 from rfl, Nat.mul_one] at hv1503_0
                                     replace hv1503_0 := zbe (hv1503_0.symm.trans hx1503_0)
                                     rw [hv1503_0] at ge1503_0
                                     have HL1503_0 := zad (show Kd.R (Kd.int .i64) 3 _ _ _ _ (rd_L2 t1477 (ji51)) from ge1503_0)
                                     clear hv1503_0 ge1503_0 hcc1503 hce1503; have HR1503_0 := zad hi1503_0; have HC1503_0 := zad hl1503_0; clear hi1503_0 hl1503_0; replace p1503 := eq_true p1503
                                     replace q1503 := eq_true q1503
                                     have p1504 : 0 ≤ ((ji51) : Int) := zas (taaa)
                                     have q1504 : (ji51) < (t1463.length : Int) := zas (taaa)
                                     obtain ⟨ad1504, e1504, hx1504_0, hx1504_1, hx1504_2⟩ := at_T39 (zbf HO_7.out).2.2 (ji51) p1504 q1504
                                     cases e1504
                                     replace p1504 := eq_true p1504
                                     replace q1504 := eq_true q1504
                                     refine start_ (n := 16) (S := fun w' => w'.cell? (ad1481.add ((ji51)).toNat) = some (.slice A1503_0 (rd_L2 t1477 (ji51)).length c1503_0) ∧ w'.cell? (ad1504.add (((ji51)).toNat * 3)) = some (.int .i64 ((rd_T39 t1463 (ji51)).f0)) ∧ w'.cell? ⟨(ad1504.add (((ji51)).toNat * 3)).block, (ad1504.add (((ji51)).toNat * 3)).off + 1, none⟩ = some (.int .i64 ((rd_T39 t1463 (ji51)).f1)) ∧ w'.cell? ⟨(ad1504.add (((ji51)).toNat * 3)).block, (ad1504.add (((ji51)).toNat * 3)).off + 2, none⟩ = some (.int .i64 ((rd_T39 t1463 (ji51)).f2))) (ds := []) #[false, false, false, false, false, false, false, false, false, false, false, false, false, false, false, false] (by kernel_rfl) rfl rfl ⟨hx1503_0, hx1504_0, hx1504_1, hx1504_2⟩ (fun hHeld => ?_); refine with_tabW laws_FnGiftPathsExist.tab23 laws_FnGiftPathsExist.bits23 (fun HT_ HW_ => ?_)
                                     generalize w80.drew = w81 at HO_5 HO_6 HO_7 HO_15 HO_110 HL1481_0 HL1498_0 HR1481_0 HR1498_0 HB HL1503_0 HR1503_0 hx1503_0 hx1504_0 hx1504_1 hx1504_2 hHeld ⊢
                                     refine pure_ (i := 0) (N := some 144) (v := ?_) (a' := ?_) tajh rfl rfl (zca HT_.out (by kernel_rfl)) (fun _ _ _ h => h) (Or.inl ⟨by rfl, ?_⟩) ?_ ?_
                                     rotate_left
                                     · intro w'
                                       go_simp; with_reducible rfl
                                     rotate_left
                                     · simp only [Act.put, zaa, zab, zac, zby, zbz]
                                       rfl
                                     refine pure_ (i := 1) (N := some 145) (v := ?_) (a' := ?_) taji rfl rfl (zca HT_.out (by kernel_rfl)) (fun _ _ _ h => h) (Or.inl ⟨by rfl, ?_⟩) ?_ ?_
                                     rotate_left
                                     · intro w'
                                       go_simp; with_reducible rfl
                                     rotate_left
                                     · simp only [Act.put, zaa, zab, zac, zby, zbz]
                                       rfl
                                     refine pure_ (i := 2) (N := some 146) (v := ?_) (a' := ?_) tajj rfl rfl (zca HT_.out (by kernel_rfl)) (fun _ _ _ h => h) (Or.inl ⟨by rfl, ?_⟩) ?_ ?_
                                     rotate_left
                                     · intro w'
                                       go_simp; with_reducible rfl
                                     rotate_left
                                     · simp only [Act.put, zaa, zab, zac, zby, zbz]
                                       rfl
                                     refine pure_ (i := 3) (N := some 147) (v := ?_) (a' := ?_) tajk rfl rfl (zca HT_.out (by kernel_rfl)) (fun _ _ _ h => h) (Or.inl ⟨by rfl, ?_⟩) ?_ ?_
                                     rotate_left
                                     · intro w'
                                       go_simp; with_reducible rfl
                                     rotate_left
                                     · simp only [Act.put, zaa, zab, zac, zby, zbz]
                                       rfl
                                     refine pure_ (i := 5) (N := some 149) (v := ?_) (a' := ?_) tajl rfl rfl (zca HT_.out (by kernel_rfl)) (fun _ _ _ h => h) (Or.inl ⟨by rfl, ?_⟩) ?_ ?_
                                     rotate_left
                                     · intro w'
                                       go_simp; with_reducible rfl
                                     rotate_left
                                     · simp only [Act.put, zaa, zab, zac, zby, zbz]
                                       rfl
                                     refine pure_ (i := 6) (N := some 150) (v := ?_) (a' := ?_) tajm rfl rfl (zca HT_.out (by kernel_rfl)) (fun _ _ _ h => h) (Or.inl ⟨by rfl, ?_⟩) ?_ ?_
                                     rotate_left
                                     · intro w'
                                       go_simp; with_reducible rfl
                                     rotate_left
                                     · simp only [Act.put, zaa, zab, zac, zby, zbz]
                                       rfl
                                     refine pure_ (i := 7) (N := some 151) (v := ?_) (a' := ?_) tajn rfl rfl (zca HT_.out (by kernel_rfl)) (fun _ _ _ h => h) (Or.inl ⟨by rfl, ?_⟩) ?_ ?_
                                     rotate_left
                                     · intro w'
                                       go_simp; with_reducible rfl
                                     rotate_left
                                     · simp only [Act.put, zaa, zab, zac, zby, zbz]
                                       rfl
                                     refine pure_ (i := 8) (N := some 152) (v := ?_) (a' := ?_) tajo rfl rfl (zca HT_.out (by kernel_rfl)) (fun _ _ _ h => h) (Or.inl ⟨by rfl, ?_⟩) ?_ ?_
                                     rotate_left
                                     · intro w'
                                       go_simp; with_reducible rfl
                                     rotate_left
                                     · simp only [Act.put, zaa, zab, zac, zby, zbz]
                                       rfl
                                     refine take_ (i := 4) (N := some 148) (v := ?_) (a' := ?_) tajp rfl rfl (zcb HT_.out HW_.out (by kernel_rfl)) (fun _ _ _ h => h) (Or.inl ⟨by rfl, ?_⟩) hHeld ?_ ?_
                                     rotate_left
                                     · rintro w' ⟨s0, s1, s2, s3⟩
                                       go_simp; with_reducible rfl
                                     rotate_left
                                     · simp only [Act.put, zaa, zab, zac, zby, zbz]
                                       rfl
                                     refine take_ (i := 9) (N := some 153) (v := ?_) (a' := ?_) tajq rfl rfl (zcb HT_.out HW_.out (by kernel_rfl)) (fun _ _ _ h => h) (Or.inl ⟨by rfl, ?_⟩) hHeld ?_ ?_
                                     rotate_left
                                     · rintro w' ⟨s0, s1, s2, s3⟩
                                       go_simp; with_reducible rfl
                                     rotate_left
                                     · simp only [Act.put, zaa, zab, zac, zby, zbz]
                                       rfl
                                     refine one_ (i := 10) (N := some 154) #[true, true, true, true, true, true, true, true, true, true, true, false, false, false, false, false] rfl rfl (one_of HT_.out (by kernel_rfl)) (by decide) (fun K hK => ?_)
                                     refine goes_ Try.func28 (by kernel_rfl) rfl #[.slice A1503_0 (rd_L2 t1477 (ji51)).length c1503_0, .agg #[.int .i64 ((rd_T39 t1463 (ji51)).f0), .int .i64 ((rd_T39 t1463 (ji51)).f1), .int .i64 ((rd_T39 t1463 (ji51)).f2)]] (by rfl) rfl rfl (tabb) ?_
                                     with_reducible refine (impl_SquaresFall.calls k3 _ _ (rd_L2 t1477 (ji51)) ((rd_T39 t1463 (ji51)).f0) ((rd_T39 t1463 (ji51)).f1) ((rd_T39 t1463 (ji51)).f2) t1505 t1506 _ ?side1 ?side2 A57.out).mono ?_
                                     (case side1 => exact tagf)
                                     (case side2 => exact HC1503_0.out)
                                     rintro e w82 ⟨rfl, hb⟩
                                     have HS0_ := (hb.cell (zaz _ _ (hHeld.1))).trans (hHeld.1)
                                     have HS1_ := (hb.cell (zaz _ _ (hHeld.2.1))).trans (hHeld.2.1)
                                     have HS2_ := (hb.cell (zaz _ _ (hHeld.2.2.1))).trans (hHeld.2.2.1)
                                     have HS3_ := (hb.cell (zaz _ _ (hHeld.2.2.2))).trans (hHeld.2.2.2)
                                     refine ⟨_, rfl, ?_⟩
                                     have n0_ := zad (zbv (taak) hb)
                                     have n1_ := zad (zbv (taai) hb)
                                     have n2_ := zad (zbv (taah) hb)
                                     have n3_ := zad (Kd.S_below (taao) hb)
                                     have n4_ := zad (Kd.S_below (taap) hb)
                                     have n5_ := zad (zbv (taat) hb)
                                     have n6_ := zad (zbv (tabz) hb)
                                     have n7_ := zad (zbv (taca) hb)
                                     have n8_ := zad (Kd.C_below (taal) hb)
                                     have n9_ := zad (Kd.C_below (taav) hb)
                                     have n10_ := zad (Kd.C_below (tabc) hb)
                                     have n11_ := zad (zbg (taab) hb)
                                     clear HO_5 HO_6 HO_7 HO_15 HO_110 HL1481_0 HL1498_0 HL1503_0 HR1481_0 HR1498_0 HR1503_0 HB; have HO_5 := n0_; have HO_6 := n1_; have HO_7 := n2_; have HO_15 := n3_; have HO_110 := n4_; have HL1481_0 := n5_; have HL1498_0 := n6_; have HL1503_0 := n7_; have HR1481_0 := n8_; have HR1498_0 := n9_; have HR1503_0 := n10_; have HB := n11_; clear n0_ n1_ n2_ n3_ n4_ n5_ n6_ n7_ n8_ n9_ n10_ n11_; (try clear hb); (try clear hb2); (try clear hk); (try clear hi); refine hK.out _ _ ⟨HS0_, HS1_, HS2_, HS3_⟩ (fun hHeld => ?_)
                                     clear hK K; refine norm_ (a' := ?_) ?_ ?_
                                     rotate_left
                                     · show Act.put _ (some 154) _ = _
                                       simp only [Act.put, zaa, zab, zac, zby, zbz]
                                       rfl
                                     refine pure_ (i := 11) (N := some 143) (v := ?_) (a' := ?_) tajr rfl rfl (zca HT_.out (by kernel_rfl)) (fun _ _ _ h => h) (Or.inl ⟨by rfl, ?_⟩) ?_ ?_
                                     rotate_left
                                     · intro w'
                                       go_simp; with_reducible rfl
                                     rotate_left
                                     · simp only [Act.put, zaa, zab, zac, zby, zbz]
                                       rfl
                                     refine pure_ (i := 12) (N := some 155) (v := ?_) (a' := ?_) tajs rfl rfl (zca HT_.out (by kernel_rfl)) (fun _ _ _ h => h) (Or.inl ⟨by rfl, ?_⟩) ?_ ?_
                                     rotate_left
                                     · intro w'
                                       go_simp; with_reducible rfl
                                     rotate_left
                                     · simp only [Act.put, zaa, zab, zac, zby, zbz]
                                       rfl
                                     refine pure_ (i := 13) (N := some 156) (v := ?_) (a' := ?_) tajt rfl rfl (zca HT_.out (by kernel_rfl)) (fun _ _ _ h => h) (Or.inl ⟨by rfl, ?_⟩) ?_ ?_
                                     rotate_left
                                     · intro w'
                                       go_simp; with_reducible rfl
                                     rotate_left
                                     · simp only [Act.put, zaa, zab, zac, zby, zbz]
                                       rfl
                                     refine pure_ (i := 14) (N := some 23) (v := ?_) (a' := ?_) taju rfl rfl (zca HT_.out (by kernel_rfl)) (fun _ _ _ h => h) (Or.inl ⟨by rfl, ?_⟩) ?_ ?_
                                     rotate_left
                                     · intro w'
                                       go_simp; with_reducible rfl
                                     rotate_left
                                     · simp only [Act.put, zaa, zab, zac, zby, zbz]
                                       rfl
                                     refine pure_ (i := 15) (N := some 24) (v := ?_) (a' := ?_) tajv rfl rfl (zca HT_.out (by kernel_rfl)) (fun _ _ _ h => h) (Or.inl ⟨by rfl, ?_⟩) ?_ ?_
                                     rotate_left
                                     · intro w'
                                       go_simp; with_reducible rfl
                                     rotate_left
                                     · simp only [Act.put, zaa, zab, zac, zby, zbz]
                                       rfl
                                     refine done_ (done_of HT_.out (by kernel_rfl)) ?_
                                     try go_wp2
                                     go_ret
                                     exact ⟨tacj, taab⟩
                                 · replace c58 := zbi.mpr c58
                                   subst c58; have H1 : (some false) = some r := by rw [if_neg (show ¬ (false = true) by decide)] at H; exact H
                                   clear H; have H := H1; clear H1; obtain rfl := zbe H
                                   have p1481 : 0 ≤ (x112_3 : Int) := zas (taaa)
                                   have q1481 : x112_3 < (t1477.length : Int) := zas (taaa)
                                   obtain ⟨ad1481, A1481_0, c1481_0, e1481, hx1481_0, hl1481_0, hi1481_0⟩ := at_L2 (Kd.S_reads' HO_110.out).2.2 x112_3 p1481 q1481
                                   cases e1481
                                   obtain ⟨ce1481, hce1481, hMe1481, hcc1481⟩ := Kd.S_get HO_110.out [] x112_3 p1481 (tafk)
                                   obtain ⟨ve1481_0, rfl, ge1481_0⟩ := hMe1481
                                   have hv1481_0 := hcc1481 0 _ rfl
                                   rw [Nat.add_zero, show ((Kd.slice 3 (Kd.int .i64))).sz = 1 from rfl, Nat.mul_one] at hv1481_0
                                   replace hv1481_0 := zbe (hv1481_0.symm.trans hx1481_0)
                                   rw [hv1481_0] at ge1481_0
                                   have HL1481_0 := zad (show Kd.R (Kd.int .i64) 3 _ _ _ _ (rd_L2 t1477 x112_3) from ge1481_0)
                                   clear hv1481_0 ge1481_0 hcc1481 hce1481; have HR1481_0 := zad hi1481_0; have HC1481_0 := zad hl1481_0; clear hi1481_0 hl1481_0; replace p1481 := eq_true p1481
                                   replace q1481 := eq_true q1481
                                   try go_wp2_with (first | ((with_reducible refine zbh (f := 22) rfl ?_); refine zbp (some 119) rfl rfl Try.func22 (by kernel_rfl) rfl #[.slice Ao10 t1457.length co10, .slice A1481_0 (rd_L2 t1477 x112_3).length c1481_0] rfl (taad) ?_; (with_reducible refine (laws_pBelow.calls k3 _ _ t1457 _ _ (rd_L2 t1477 x112_3) true _ ?side1 ?side2 ?side3 ?side4 A44.out).mono ?_); (case side1 => repeat (first | exact (zbf HO_5.out).2.2 | (with_reducible refine zal ?_ _) | (with_reducible refine zam ?_ _) | (with_reducible refine zan ?_))); (case side2 => exact (zbf HO_5.out).2.1); (case side3 => repeat (first | exact (taal) | (with_reducible refine zal ?_ _) | (with_reducible refine zam ?_ _) | (with_reducible refine zan ?_))); (case side4 => exact HC1481_0.out); rintro e w83 ⟨rfl, hb⟩; refine ⟨_, rfl, ?_⟩; have n0_ := zad (zbv (taak) hb); have n1_ := zad (zbv (taai) hb); have n2_ := zad (zbv (taah) hb); have n3_ := zad (Kd.S_below (taao) hb); have n4_ := zad (Kd.S_below (taap) hb); have n5_ := zad (zbv (taat) hb); have n6_ := zad (Kd.C_below (taal) hb); have n7_ := zad (zbg (taab) hb); clear HO_5 HO_6 HO_7 HO_15 HO_110 HL1481_0 HR1481_0 HB; have HO_5 := n0_; have HO_6 := n1_; have HO_7 := n2_; have HO_15 := n3_; have HO_110 := n4_; have HL1481_0 := n5_; have HR1481_0 := n6_; have HB := n7_; clear n0_ n1_ n2_ n3_ n4_ n5_ n6_ n7_; (try clear hb); (try clear hb2); (try clear hk); (try clear hi)) | (go_at_call 22; (with_reducible refine (laws_pBelow.calls k3 _ _ (rd_L2 t1477 x112_3) _ _ t1458 true _ ?side1 ?side2 ?side3 ?side4 A46.out).mono ?_); (case side1 => repeat (first | exact (taal) | (with_reducible refine zal ?_ _) | (with_reducible refine zam ?_ _) | (with_reducible refine zan ?_))); (case side2 => exact HC1481_0.out); (case side3 => repeat (first | exact (zbf HO_6.out).2.2 | (with_reducible refine zal ?_ _) | (with_reducible refine zam ?_ _) | (with_reducible refine zan ?_))); (case side4 => exact (zbf HO_6.out).2.1); rintro e w84 ⟨rfl, hb⟩; have n0_ := zad (zbv (taak) hb); have n1_ := zad (zbv (taai) hb); have n2_ := zad (zbv (taah) hb); have n3_ := zad (Kd.S_below (taao) hb); have n4_ := zad (Kd.S_below (taap) hb); have n5_ := zad (zbv (taat) hb); have n6_ := zad (Kd.C_below (taal) hb); have n7_ := zad (zbg (taab) hb); clear HO_5 HO_6 HO_7 HO_15 HO_110 HL1481_0 HR1481_0 HB; have HO_5 := n0_; have HO_6 := n1_; have HO_7 := n2_; have HO_15 := n3_; have HO_110 := n4_; have HL1481_0 := n5_; have HR1481_0 := n6_; have HB := n7_; clear n0_ n1_ n2_ n3_ n4_ n5_ n6_ n7_; (try clear hb); (try clear hb2); (try clear hk); (try clear hi); have p1498 : 0 ≤ ((ji51) : Int) := zas (taaa); have q1498 : (ji51) < (t1477.length : Int) := zas (taaa); obtain ⟨ad1498, A1498_0, c1498_0, e1498, hx1498_0, hl1498_0, hi1498_0⟩ := at_L2 (Kd.S_reads' HO_15.out).2.2 (ji51) p1498 q1498; obtain rfl : ad1481 = ad1498 := (by injection e1498); obtain ⟨ce1498, hce1498, hMe1498, hcc1498⟩ := Kd.S_get HO_15.out [] (ji51) p1498 (tafn); obtain ⟨ve1498_0, rfl, ge1498_0⟩ := hMe1498; have hv1498_0 := hcc1498 0 _ rfl; rw [Nat.add_zero, show ((Kd.slice 3 (Kd.int .i64))).sz = 1 from rfl, Nat.mul_one] at hv1498_0; replace hv1498_0 := zbe (hv1498_0.symm.trans hx1498_0); rw [hv1498_0] at ge1498_0; have HL1498_0 := zad (show Kd.R (Kd.int .i64) 3 _ _ _ _ (rd_L2 t1477 (ji51)) from ge1498_0); clear hv1498_0 ge1498_0 hcc1498 hce1498; have HR1498_0 := zad hi1498_0; have HC1498_0 := zad hl1498_0; clear hi1498_0 hl1498_0; replace p1498 := eq_true p1498; replace q1498 := eq_true q1498) | ((with_reducible refine zbh (f := 36) rfl ?_); refine zbp (some 135) rfl rfl Try.func36 (by kernel_rfl) rfl #[.slice A1498_0 (rd_L2 t1477 (ji51)).length c1498_0] rfl (tabb) ?_; (with_reducible refine (impl_SquareSum.calls k3 _ _ (rd_L2 t1477 (ji51)) t1499 false _ ?side1 ?side2 A54.out).mono ?_); (case side1 => repeat (first | exact (taav) | (with_reducible refine zal ?_ _) | (with_reducible refine zam ?_ _) | (with_reducible refine zan ?_))); (case side2 => exact HC1498_0.out); rintro e w' ⟨rfl, ⟨nd, rfl⟩⟩; refine ⟨_, rfl, ?_⟩) | ((with_reducible refine zbh (f := 36) rfl ?_); refine zbp (some 140) rfl rfl Try.func36 (by kernel_rfl) rfl #[.slice A1481_0 (rd_L2 t1477 x112_3).length c1481_0] rfl (taad) ?_; (with_reducible refine (impl_SquareSum.calls k3 _ _ (rd_L2 t1477 x112_3) t1501 t1502 _ ?side1 ?side2 A55.out).mono ?_); (case side1 => repeat (first | exact (taal) | (with_reducible refine zal ?_ _) | (with_reducible refine zam ?_ _) | (with_reducible refine zan ?_))); (case side2 => exact HC1481_0.out); rintro e w' ⟨rfl, ⟨nd, rfl⟩⟩; refine ⟨_, rfl, ?_⟩))
                                   (try (rw [drewN_self w84]; generalize hq_ : World.drewN w84 _ = w84; have n0_ : Aside0 (Kd.R (Kd.int .i64) 3 w84 w.heap.size (fun k_ => some k_ ≠ (.slice (some ad1481) t1477.length co40 : Value).ownBlock ∧ some k_ ≠ (.slice Ao10 t1457.length co10 : Value).ownBlock ∧ some k_ ≠ (.slice Ao11 t1458.length co11 : Value).ownBlock) (.slice A1481_0 (rd_L2 t1477 x112_3).length c1481_0) (rd_L2 t1477 x112_3)) := ⟨tafo⟩; have n1_ : Aside0 (Kd.R (Kd.int .i64) 3 w84 w.heap.size (fun k_ => some k_ ≠ (.slice (some ad1481) t1477.length co40 : Value).ownBlock ∧ some k_ ≠ (.slice Ao10 t1457.length co10 : Value).ownBlock ∧ some k_ ≠ (.slice Ao11 t1458.length co11 : Value).ownBlock) (.slice A1498_0 (rd_L2 t1477 (ji51)).length c1498_0) (rd_L2 t1477 (ji51))) := ⟨tafp⟩; have n2_ : Aside0 (Kd.S (Kd.slice 3 (Kd.int .i64)) 26 w84 w.heap.size (fun k_ => some k_ ≠ (.slice Ao10 t1457.length co10 : Value).ownBlock ∧ some k_ ≠ (.slice Ao11 t1458.length co11 : Value).ownBlock) (.slice (some ad1481) t1477.length co40) t1477) := ⟨tafq⟩; have n3_ : Aside0 (Kd.S (Kd.slice 3 (Kd.int .i64)) 26 w84 w.heap.size (fun k_ => some k_ ≠ (.slice Ao10 t1457.length co10 : Value).ownBlock ∧ some k_ ≠ (.slice Ao11 t1458.length co11 : Value).ownBlock) (.slice (some ad1481) t1477.length co40) t1477) := ⟨tafr⟩; have n4_ : Aside0 (Kd.R (Kd.int .i64) 3 w84 w.heap.size (fun k_ => some k_ ≠ (.slice Ao11 t1458.length co11 : Value).ownBlock) (.slice Ao10 t1457.length co10) t1457) := ⟨tafs⟩; have n5_ : Aside0 (Kd.R (Kd.int .i64) 3 w84 w.heap.size (fun k_ => some k_ ≠ (.slice Ao10 t1457.length co10 : Value).ownBlock) (.slice Ao11 t1458.length co11) t1458) := ⟨taft⟩; have n6_ : Aside0 (Kd.R k39 39 w84 w.heap.size (fun _ => True) (.slice Ao30 t1463.length co30) t1463) := ⟨tafl⟩; have n7_ : Aside0 (Below w.heap.size w w84) := ⟨tafm⟩; have n8_ : Aside0 (Kd.C (Kd.int .i64) w84 A1481_0 (rd_L2 t1477 x112_3).length (rd_L2 t1477 x112_3)) := ⟨tafu⟩; have n9_ : Aside0 (Kd.C (Kd.int .i64) w84 A1498_0 (rd_L2 t1477 (ji51)).length (rd_L2 t1477 (ji51))) := ⟨tafv⟩; clear HL1481_0 HL1498_0 HO_110 HO_15 HO_5 HO_6 HO_7 HB HR1481_0 HR1498_0 hq_; have HL1481_0 := n0_; have HL1498_0 := n1_; have HO_110 := n2_; have HO_15 := n3_; have HO_5 := n4_; have HO_6 := n5_; have HO_7 := n6_; have HB := n7_; have HR1481_0 := n8_; have HR1498_0 := n9_; clear n0_ n1_ n2_ n3_ n4_ n5_ n6_ n7_ n8_ n9_))
                                   have n0_ := zad (zak HO_5.out)
                                   have n1_ := zad (zak HO_6.out)
                                   have n2_ := zad (zak HO_7.out)
                                   have n3_ := zad (Kd.S_drew HO_15.out)
                                   have n4_ := zad (Kd.S_drew HO_110.out)
                                   have n5_ := zad (zak HL1481_0.out)
                                   have n6_ := zad (zak HL1498_0.out)
                                   have n7_ := zad (zan HR1481_0.out)
                                   have n8_ := zad (zan HR1498_0.out)
                                   have n9_ := zad (zaf HB.out)
                                   clear HO_5 HO_6 HO_7 HO_15 HO_110 HL1481_0 HL1498_0 HR1481_0 HR1498_0 HB; have HO_5 := n0_; have HO_6 := n1_; have HO_7 := n2_; have HO_15 := n3_; have HO_110 := n4_; have HL1481_0 := n5_; have HL1498_0 := n6_; have HR1481_0 := n7_; have HR1498_0 := n8_; have HB := n9_; clear n0_ n1_ n2_ n3_ n4_ n5_ n6_ n7_ n8_ n9_; have p1503 : 0 ≤ ((ji51) : Int) := zas (taaa)
                                   have q1503 : (ji51) < (t1477.length : Int) := zas (taaa)
                                   obtain ⟨ad1503, A1503_0, c1503_0, e1503, hx1503_0, hl1503_0, hi1503_0⟩ := at_L2 (Kd.S_reads' HO_15.out).2.2 (ji51) p1503 q1503
                                   obtain rfl : ad1481 = ad1503 := (by injection e1503)
                                   obtain ⟨ce1503, hce1503, hMe1503, hcc1503⟩ := Kd.S_get HO_15.out [] (ji51) p1503 (tafw)
                                   obtain ⟨ve1503_0, rfl, ge1503_0⟩ := hMe1503
                                   have hv1503_0 := hcc1503 0 _ rfl
                                   rw [Nat.add_zero, show ((Kd.slice 3 (Kd.int .i64))).sz = 1 from rfl, Nat.mul_one] at hv1503_0
                                   replace hv1503_0 := zbe (hv1503_0.symm.trans hx1503_0)
                                   rw [hv1503_0] at ge1503_0
                                   have HL1503_0 := zad (show Kd.R (Kd.int .i64) 3 _ _ _ _ (rd_L2 t1477 (ji51)) from ge1503_0)
                                   clear hv1503_0 ge1503_0 hcc1503 hce1503; have HR1503_0 := zad hi1503_0; have HC1503_0 := zad hl1503_0; clear hi1503_0 hl1503_0; replace p1503 := eq_true p1503
                                   replace q1503 := eq_true q1503
                                   have p1504 : 0 ≤ ((ji51) : Int) := zas (taaa)
                                   have q1504 : (ji51) < (t1463.length : Int) := zas (taaa)
                                   obtain ⟨ad1504, e1504, hx1504_0, hx1504_1, hx1504_2⟩ := at_T39 (zbf HO_7.out).2.2 (ji51) p1504 q1504
                                   cases e1504
                                   replace p1504 := eq_true p1504
                                   replace q1504 := eq_true q1504
                                   refine start_ (n := 16) (S := fun w' => w'.cell? (ad1481.add ((ji51)).toNat) = some (.slice A1503_0 (rd_L2 t1477 (ji51)).length c1503_0) ∧ w'.cell? (ad1504.add (((ji51)).toNat * 3)) = some (.int .i64 ((rd_T39 t1463 (ji51)).f0)) ∧ w'.cell? ⟨(ad1504.add (((ji51)).toNat * 3)).block, (ad1504.add (((ji51)).toNat * 3)).off + 1, none⟩ = some (.int .i64 ((rd_T39 t1463 (ji51)).f1)) ∧ w'.cell? ⟨(ad1504.add (((ji51)).toNat * 3)).block, (ad1504.add (((ji51)).toNat * 3)).off + 2, none⟩ = some (.int .i64 ((rd_T39 t1463 (ji51)).f2))) (ds := []) #[false, false, false, false, false, false, false, false, false, false, false, false, false, false, false, false] (by kernel_rfl) rfl rfl ⟨hx1503_0, hx1504_0, hx1504_1, hx1504_2⟩ (fun hHeld => ?_); refine with_tabW laws_FnGiftPathsExist.tab23 laws_FnGiftPathsExist.bits23 (fun HT_ HW_ => ?_)
                                   generalize w84.drew = w85 at HO_5 HO_6 HO_7 HO_15 HO_110 HL1481_0 HL1498_0 HR1481_0 HR1498_0 HB HL1503_0 HR1503_0 hx1503_0 hx1504_0 hx1504_1 hx1504_2 hHeld ⊢
                                   refine pure_ (i := 0) (N := some 144) (v := ?_) (a' := ?_) tajh rfl rfl (zca HT_.out (by kernel_rfl)) (fun _ _ _ h => h) (Or.inl ⟨by rfl, ?_⟩) ?_ ?_
                                   rotate_left
                                   · intro w'
                                     go_simp; with_reducible rfl
                                   rotate_left
                                   · simp only [Act.put, zaa, zab, zac, zby, zbz]
                                     rfl
                                   refine pure_ (i := 1) (N := some 145) (v := ?_) (a' := ?_) taji rfl rfl (zca HT_.out (by kernel_rfl)) (fun _ _ _ h => h) (Or.inl ⟨by rfl, ?_⟩) ?_ ?_
                                   rotate_left
                                   · intro w'
                                     go_simp; with_reducible rfl
                                   rotate_left
                                   · simp only [Act.put, zaa, zab, zac, zby, zbz]
                                     rfl
                                   refine pure_ (i := 2) (N := some 146) (v := ?_) (a' := ?_) tajj rfl rfl (zca HT_.out (by kernel_rfl)) (fun _ _ _ h => h) (Or.inl ⟨by rfl, ?_⟩) ?_ ?_
                                   rotate_left
                                   · intro w'
                                     go_simp; with_reducible rfl
                                   rotate_left
                                   · simp only [Act.put, zaa, zab, zac, zby, zbz]
                                     rfl
                                   refine pure_ (i := 3) (N := some 147) (v := ?_) (a' := ?_) tajk rfl rfl (zca HT_.out (by kernel_rfl)) (fun _ _ _ h => h) (Or.inl ⟨by rfl, ?_⟩) ?_ ?_
                                   rotate_left
                                   · intro w'
                                     go_simp; with_reducible rfl
                                   rotate_left
                                   · simp only [Act.put, zaa, zab, zac, zby, zbz]
                                     rfl
                                   refine pure_ (i := 5) (N := some 149) (v := ?_) (a' := ?_) tajl rfl rfl (zca HT_.out (by kernel_rfl)) (fun _ _ _ h => h) (Or.inl ⟨by rfl, ?_⟩) ?_ ?_
                                   rotate_left
                                   · intro w'
                                     go_simp; with_reducible rfl
                                   rotate_left
                                   · simp only [Act.put, zaa, zab, zac, zby, zbz]
                                     rfl
                                   refine pure_ (i := 6) (N := some 150) (v := ?_) (a' := ?_) tajm rfl rfl (zca HT_.out (by kernel_rfl)) (fun _ _ _ h => h) (Or.inl ⟨by rfl, ?_⟩) ?_ ?_
                                   rotate_left
                                   · intro w'
                                     go_simp; with_reducible rfl
                                   rotate_left
                                   · simp only [Act.put, zaa, zab, zac, zby, zbz]
                                     rfl
                                   refine pure_ (i := 7) (N := some 151) (v := ?_) (a' := ?_) tajn rfl rfl (zca HT_.out (by kernel_rfl)) (fun _ _ _ h => h) (Or.inl ⟨by rfl, ?_⟩) ?_ ?_
                                   rotate_left
                                   · intro w'
                                     go_simp; with_reducible rfl
                                   rotate_left
                                   · simp only [Act.put, zaa, zab, zac, zby, zbz]
                                     rfl
                                   refine pure_ (i := 8) (N := some 152) (v := ?_) (a' := ?_) tajo rfl rfl (zca HT_.out (by kernel_rfl)) (fun _ _ _ h => h) (Or.inl ⟨by rfl, ?_⟩) ?_ ?_
                                   rotate_left
                                   · intro w'
                                     go_simp; with_reducible rfl
                                   rotate_left
                                   · simp only [Act.put, zaa, zab, zac, zby, zbz]
                                     rfl
                                   refine take_ (i := 4) (N := some 148) (v := ?_) (a' := ?_) tajp rfl rfl (zcb HT_.out HW_.out (by kernel_rfl)) (fun _ _ _ h => h) (Or.inl ⟨by rfl, ?_⟩) hHeld ?_ ?_
                                   rotate_left
                                   · rintro w' ⟨s0, s1, s2, s3⟩
                                     go_simp; with_reducible rfl
                                   rotate_left
                                   · simp only [Act.put, zaa, zab, zac, zby, zbz]
                                     rfl
                                   refine take_ (i := 9) (N := some 153) (v := ?_) (a' := ?_) tajq rfl rfl (zcb HT_.out HW_.out (by kernel_rfl)) (fun _ _ _ h => h) (Or.inl ⟨by rfl, ?_⟩) hHeld ?_ ?_
                                   rotate_left
                                   · rintro w' ⟨s0, s1, s2, s3⟩
                                     go_simp; with_reducible rfl
                                   rotate_left
                                   · simp only [Act.put, zaa, zab, zac, zby, zbz]
                                     rfl
                                   refine one_ (i := 10) (N := some 154) #[true, true, true, true, true, true, true, true, true, true, true, false, false, false, false, false] rfl rfl (one_of HT_.out (by kernel_rfl)) (by decide) (fun K hK => ?_)
                                   refine goes_ Try.func28 (by kernel_rfl) rfl #[.slice A1503_0 (rd_L2 t1477 (ji51)).length c1503_0, .agg #[.int .i64 ((rd_T39 t1463 (ji51)).f0), .int .i64 ((rd_T39 t1463 (ji51)).f1), .int .i64 ((rd_T39 t1463 (ji51)).f2)]] (by rfl) rfl rfl (tabb) ?_
                                   with_reducible refine (impl_SquaresFall.calls k3 _ _ (rd_L2 t1477 (ji51)) ((rd_T39 t1463 (ji51)).f0) ((rd_T39 t1463 (ji51)).f1) ((rd_T39 t1463 (ji51)).f2) t1505 t1506 _ ?side1 ?side2 A57.out).mono ?_
                                   (case side1 => exact tagf)
                                   (case side2 => exact HC1503_0.out)
                                   rintro e w86 ⟨rfl, hb⟩
                                   have HS0_ := (hb.cell (zaz _ _ (hHeld.1))).trans (hHeld.1)
                                   have HS1_ := (hb.cell (zaz _ _ (hHeld.2.1))).trans (hHeld.2.1)
                                   have HS2_ := (hb.cell (zaz _ _ (hHeld.2.2.1))).trans (hHeld.2.2.1)
                                   have HS3_ := (hb.cell (zaz _ _ (hHeld.2.2.2))).trans (hHeld.2.2.2)
                                   refine ⟨_, rfl, ?_⟩
                                   have n0_ := zad (zbv (taak) hb)
                                   have n1_ := zad (zbv (taai) hb)
                                   have n2_ := zad (zbv (taah) hb)
                                   have n3_ := zad (Kd.S_below (taao) hb)
                                   have n4_ := zad (Kd.S_below (taap) hb)
                                   have n5_ := zad (zbv (taat) hb)
                                   have n6_ := zad (zbv (tabz) hb)
                                   have n7_ := zad (zbv (taca) hb)
                                   have n8_ := zad (Kd.C_below (taal) hb)
                                   have n9_ := zad (Kd.C_below (taav) hb)
                                   have n10_ := zad (Kd.C_below (tabc) hb)
                                   have n11_ := zad (zbg (taab) hb)
                                   clear HO_5 HO_6 HO_7 HO_15 HO_110 HL1481_0 HL1498_0 HL1503_0 HR1481_0 HR1498_0 HR1503_0 HB; have HO_5 := n0_; have HO_6 := n1_; have HO_7 := n2_; have HO_15 := n3_; have HO_110 := n4_; have HL1481_0 := n5_; have HL1498_0 := n6_; have HL1503_0 := n7_; have HR1481_0 := n8_; have HR1498_0 := n9_; have HR1503_0 := n10_; have HB := n11_; clear n0_ n1_ n2_ n3_ n4_ n5_ n6_ n7_ n8_ n9_ n10_ n11_; (try clear hb); (try clear hb2); (try clear hk); (try clear hi); refine hK.out _ _ ⟨HS0_, HS1_, HS2_, HS3_⟩ (fun hHeld => ?_)
                                   clear hK K; refine norm_ (a' := ?_) ?_ ?_
                                   rotate_left
                                   · show Act.put _ (some 154) _ = _
                                     simp only [Act.put, zaa, zab, zac, zby, zbz]
                                     rfl
                                   refine pure_ (i := 11) (N := some 143) (v := ?_) (a' := ?_) tajr rfl rfl (zca HT_.out (by kernel_rfl)) (fun _ _ _ h => h) (Or.inl ⟨by rfl, ?_⟩) ?_ ?_
                                   rotate_left
                                   · intro w'
                                     go_simp; with_reducible rfl
                                   rotate_left
                                   · simp only [Act.put, zaa, zab, zac, zby, zbz]
                                     rfl
                                   refine pure_ (i := 12) (N := some 155) (v := ?_) (a' := ?_) tajs rfl rfl (zca HT_.out (by kernel_rfl)) (fun _ _ _ h => h) (Or.inl ⟨by rfl, ?_⟩) ?_ ?_
                                   rotate_left
                                   · intro w'
                                     go_simp; with_reducible rfl
                                   rotate_left
                                   · simp only [Act.put, zaa, zab, zac, zby, zbz]
                                     rfl
                                   refine pure_ (i := 13) (N := some 156) (v := ?_) (a' := ?_) tajt rfl rfl (zca HT_.out (by kernel_rfl)) (fun _ _ _ h => h) (Or.inl ⟨by rfl, ?_⟩) ?_ ?_
                                   rotate_left
                                   · intro w'
                                     go_simp; with_reducible rfl
                                   rotate_left
                                   · simp only [Act.put, zaa, zab, zac, zby, zbz]
                                     rfl
                                   refine pure_ (i := 14) (N := some 23) (v := ?_) (a' := ?_) taju rfl rfl (zca HT_.out (by kernel_rfl)) (fun _ _ _ h => h) (Or.inl ⟨by rfl, ?_⟩) ?_ ?_
                                   rotate_left
                                   · intro w'
                                     go_simp; with_reducible rfl
                                   rotate_left
                                   · simp only [Act.put, zaa, zab, zac, zby, zbz]
                                     rfl
                                   refine pure_ (i := 15) (N := some 24) (v := ?_) (a' := ?_) tajv rfl rfl (zca HT_.out (by kernel_rfl)) (fun _ _ _ h => h) (Or.inl ⟨by rfl, ?_⟩) ?_ ?_
                                   rotate_left
                                   · intro w'
                                     go_simp; with_reducible rfl
                                   rotate_left
                                   · simp only [Act.put, zaa, zab, zac, zby, zbz]
                                     rfl
                                   refine done_ (done_of HT_.out (by kernel_rfl)) ?_
                                   try go_wp2
                                   go_ret
                                   exact ⟨tacj, taab⟩
                               · rw [if_neg c56] at H
                                 exact absurd H (taae)
                             · rw [if_neg c53] at H
                               exact absurd H (taae)
                           · rw [if_neg c52] at H
                             exact absurd H (taae)
                       · replace c47 := zbi.mpr c47
                         subst c47; have H1 : (some false) = some r := by rw [if_neg (show ¬ (false = true) by decide)] at H; exact H
                         clear H; have H := H1; clear H1; obtain rfl := zbe H
                         have p1481 : 0 ≤ (x112_3 : Int) := zas (taaa)
                         have q1481 : x112_3 < (t1477.length : Int) := zas (taaa)
                         obtain ⟨ad1481, A1481_0, c1481_0, e1481, hx1481_0, hl1481_0, hi1481_0⟩ := at_L2 (Kd.S_reads' HO_110.out).2.2 x112_3 p1481 q1481
                         cases e1481
                         obtain ⟨ce1481, hce1481, hMe1481, hcc1481⟩ := Kd.S_get HO_110.out [] x112_3 p1481 (tafk)
                         obtain ⟨ve1481_0, rfl, ge1481_0⟩ := hMe1481
                         have hv1481_0 := hcc1481 0 _ rfl
                         rw [Nat.add_zero, show ((Kd.slice 3 (Kd.int .i64))).sz = 1 from rfl, Nat.mul_one] at hv1481_0
                         replace hv1481_0 := zbe (hv1481_0.symm.trans hx1481_0)
                         rw [hv1481_0] at ge1481_0
                         have HL1481_0 := zad (show Kd.R (Kd.int .i64) 3 _ _ _ _ (rd_L2 t1477 x112_3) from ge1481_0)
                         clear hv1481_0 ge1481_0 hcc1481 hce1481; have HR1481_0 := zad hi1481_0; have HC1481_0 := zad hl1481_0; clear hi1481_0 hl1481_0; replace p1481 := eq_true p1481
                         replace q1481 := eq_true q1481
                         go_wp2_with (first | ((with_reducible refine zbh (f := 22) rfl ?_); refine zbp (some 119) rfl rfl Try.func22 (by kernel_rfl) rfl #[.slice Ao10 t1457.length co10, .slice A1481_0 (rd_L2 t1477 x112_3).length c1481_0] rfl (taad) ?_; (with_reducible refine (laws_pBelow.calls k3 _ _ t1457 _ _ (rd_L2 t1477 x112_3) true _ ?side1 ?side2 ?side3 ?side4 A44.out).mono ?_); (case side1 => repeat (first | exact (zbf HO_5.out).2.2 | (with_reducible refine zal ?_ _) | (with_reducible refine zam ?_ _) | (with_reducible refine zan ?_))); (case side2 => exact (zbf HO_5.out).2.1); (case side3 => repeat (first | exact (taal) | (with_reducible refine zal ?_ _) | (with_reducible refine zam ?_ _) | (with_reducible refine zan ?_))); (case side4 => exact HC1481_0.out); rintro e w87 ⟨rfl, hb⟩; refine ⟨_, rfl, ?_⟩; have n0_ := zad (zbv (taak) hb); have n1_ := zad (zbv (taai) hb); have n2_ := zad (zbv (taah) hb); have n3_ := zad (Kd.S_below (taao) hb); have n4_ := zad (Kd.S_below (taap) hb); have n5_ := zad (zbv (taat) hb); have n6_ := zad (Kd.C_below (taal) hb); have n7_ := zad (zbg (taab) hb); clear HO_5 HO_6 HO_7 HO_15 HO_110 HL1481_0 HR1481_0 HB; have HO_5 := n0_; have HO_6 := n1_; have HO_7 := n2_; have HO_15 := n3_; have HO_110 := n4_; have HL1481_0 := n5_; have HR1481_0 := n6_; have HB := n7_; clear n0_ n1_ n2_ n3_ n4_ n5_ n6_ n7_; (try clear hb); (try clear hb2); (try clear hk); (try clear hi)) | (go_at_call 22; (with_reducible refine (laws_pBelow.calls k3 _ _ (rd_L2 t1477 x112_3) _ _ t1458 false _ ?side1 ?side2 ?side3 ?side4 A46.out).mono ?_); (case side1 => repeat (first | exact (taal) | (with_reducible refine zal ?_ _) | (with_reducible refine zam ?_ _) | (with_reducible refine zan ?_))); (case side2 => exact HC1481_0.out); (case side3 => repeat (first | exact (zbf HO_6.out).2.2 | (with_reducible refine zal ?_ _) | (with_reducible refine zam ?_ _) | (with_reducible refine zan ?_))); (case side4 => exact (zbf HO_6.out).2.1); rintro e w88 ⟨rfl, hb⟩; have n0_ := zad (zbv (taak) hb); have n1_ := zad (zbv (taai) hb); have n2_ := zad (zbv (taah) hb); have n3_ := zad (Kd.S_below (taao) hb); have n4_ := zad (Kd.S_below (taap) hb); have n5_ := zad (zbv (taat) hb); have n6_ := zad (Kd.C_below (taal) hb); have n7_ := zad (zbg (taab) hb); clear HO_5 HO_6 HO_7 HO_15 HO_110 HL1481_0 HR1481_0 HB; have HO_5 := n0_; have HO_6 := n1_; have HO_7 := n2_; have HO_15 := n3_; have HO_110 := n4_; have HL1481_0 := n5_; have HR1481_0 := n6_; have HB := n7_; clear n0_ n1_ n2_ n3_ n4_ n5_ n6_ n7_; (try clear hb); (try clear hb2); (try clear hk); (try clear hi)))
                         go_ret
                         exact ⟨taaj, taab⟩
                     · replace c45 := zbi.mpr c45
                       subst c45; have H1 : (some false) = some r := by rw [if_neg (show ¬ (false = true) by decide)] at H; exact H
                       clear H; have H := H1; clear H1; obtain rfl := zbe H
                       have p1481 : 0 ≤ (x112_3 : Int) := zas (taaa)
                       have q1481 : x112_3 < (t1477.length : Int) := zas (taaa)
                       obtain ⟨ad1481, A1481_0, c1481_0, e1481, hx1481_0, hl1481_0, hi1481_0⟩ := at_L2 (Kd.S_reads' HO_110.out).2.2 x112_3 p1481 q1481
                       cases e1481
                       obtain ⟨ce1481, hce1481, hMe1481, hcc1481⟩ := Kd.S_get HO_110.out [] x112_3 p1481 (tafk)
                       obtain ⟨ve1481_0, rfl, ge1481_0⟩ := hMe1481
                       have hv1481_0 := hcc1481 0 _ rfl
                       rw [Nat.add_zero, show ((Kd.slice 3 (Kd.int .i64))).sz = 1 from rfl, Nat.mul_one] at hv1481_0
                       replace hv1481_0 := zbe (hv1481_0.symm.trans hx1481_0)
                       rw [hv1481_0] at ge1481_0
                       have HL1481_0 := zad (show Kd.R (Kd.int .i64) 3 _ _ _ _ (rd_L2 t1477 x112_3) from ge1481_0)
                       clear hv1481_0 ge1481_0 hcc1481 hce1481; have HR1481_0 := zad hi1481_0; have HC1481_0 := zad hl1481_0; clear hi1481_0 hl1481_0; replace p1481 := eq_true p1481
                       replace q1481 := eq_true q1481
                       go_wp2_with (first | ((with_reducible refine zbh (f := 22) rfl ?_); refine zbp (some 119) rfl rfl Try.func22 (by kernel_rfl) rfl #[.slice Ao10 t1457.length co10, .slice A1481_0 (rd_L2 t1477 x112_3).length c1481_0] rfl (taad) ?_; (with_reducible refine (laws_pBelow.calls k3 _ _ t1457 _ _ (rd_L2 t1477 x112_3) false _ ?side1 ?side2 ?side3 ?side4 A44.out).mono ?_); (case side1 => repeat (first | exact (zbf HO_5.out).2.2 | (with_reducible refine zal ?_ _) | (with_reducible refine zam ?_ _) | (with_reducible refine zan ?_))); (case side2 => exact (zbf HO_5.out).2.1); (case side3 => repeat (first | exact (taal) | (with_reducible refine zal ?_ _) | (with_reducible refine zam ?_ _) | (with_reducible refine zan ?_))); (case side4 => exact HC1481_0.out); rintro e w89 ⟨rfl, hb⟩; refine ⟨_, rfl, ?_⟩; have n0_ := zad (zbv (taak) hb); have n1_ := zad (zbv (taai) hb); have n2_ := zad (zbv (taah) hb); have n3_ := zad (Kd.S_below (taao) hb); have n4_ := zad (Kd.S_below (taap) hb); have n5_ := zad (zbv (taat) hb); have n6_ := zad (Kd.C_below (taal) hb); have n7_ := zad (zbg (taab) hb); clear HO_5 HO_6 HO_7 HO_15 HO_110 HL1481_0 HR1481_0 HB; have HO_5 := n0_; have HO_6 := n1_; have HO_7 := n2_; have HO_15 := n3_; have HO_110 := n4_; have HL1481_0 := n5_; have HR1481_0 := n6_; have HB := n7_; clear n0_ n1_ n2_ n3_ n4_ n5_ n6_ n7_; (try clear hb); (try clear hb2); (try clear hk); (try clear hi)))
                       go_ret
                       exact ⟨taaj, taab⟩
                   · rw [if_neg c43] at H
                     exact absurd H (taae)
                 · rw [if_neg c42] at H
                   exact absurd H (taae)
               · rw [if_neg c41] at H
                 have c41b0 : decide (x112_3 < (t1477.length : Int)) = false := zbj c41
                 clear c41; obtain rfl := zbe H
                 go_wp2
                 go_ret
                 exact ⟨taaj, taab⟩
       · replace c24 := zbi.mpr c24
         subst c24; have H1 : (some true) = some r := by rw [if_neg (show ¬ (false = true) by decide)] at H; exact H
         clear H; have H := H1; clear H1; obtain rfl := zbe H
         go_wp2
         go_ret
         exact ⟨taaj, taab⟩
def laws_FnGiftPathsExist.Pure : Prop := ∀ (l0 : List Int) (l1 : List Int), l0.length ≤ maxLen → l0.length * 1 ≤ 140737488351232 → (∀ x ∈ l0, (Lit.int .u8 x).wf = true) → l1.length ≤ maxLen → l1.length * 1 ≤ 140737488351232 → (∀ x ∈ l1, (Lit.int .u8 x).wf = true) → ∃ k, laws_FnGiftPathsExist.f k l0 l1 = some true
theorem laws_FnGiftPathsExist.walk (P : laws_FnGiftPathsExist.Pure) (a0 : Option Addr) (len0 cap0 : Nat) (z0 : List Int) (a1 : Option Addr) (len1 cap1 : Nat) (z1 : List Int) (w : World) (w0 : (a0 = none ∧ len0 = 0 ∧ cap0 = 0 ∧ z0 = []) ∨ ∃ x, a0 = some x ∧ len0 ≤ cap0 ∧ cap0 ≤ maxLen ∧ z0.length = cap0 ∧ (∀ i, i < z0.length → w.cell? (x.add i) = some (.int .u8 (z0.getD i 0))) ∧ ∀ n ∈ z0, (Lit.int .u8 n).wf = true) (y0 : len0 * 1 ≤ 140737488351232) (w1 : (a1 = none ∧ len1 = 0 ∧ cap1 = 0 ∧ z1 = []) ∨ ∃ x, a1 = some x ∧ len1 ≤ cap1 ∧ cap1 ≤ maxLen ∧ z1.length = cap1 ∧ (∀ i, i < z1.length → w.cell? (x.add i) = some (.int .u8 (z1.getD i 0))) ∧ ∀ n ∈ z1, (Lit.int .u8 n).wf = true) (y1 : len1 * 1 ≤ 140737488351232) :
 Calls Try.prog 11 #[.slice a0 len0 cap0, .slice a1 len1 cap1] w fun e w' => e = .returned (.bool true) ∧ Below w.heap.size w w' := by
 obtain ⟨l0, rfl, hr0, hm0, hw0, hc0⟩ := ReadsInt.ofRowC w0
 obtain ⟨l1, rfl, hr1, hm1, hw1, hc1⟩ := ReadsInt.ofRowC w1
 obtain ⟨k, h⟩ := P l0 l1 hm0 y0 hw0 hm1 y1 hw1
 refine (laws_FnGiftPathsExist.calls k _ _ l0 _ _ l1 true w (Kd.C_of_reads (d := (0 : Int)) (h1 := fun _ => rfl) hr0) hc0 (Kd.C_of_reads (d := (0 : Int)) (h1 := fun _ => rfl) hr1) hc1 h).mono ?_
 rintro e w' ⟨rfl, hd⟩
 exact ⟨rfl, hd⟩
mutual
def impl_CompareLists.j0 : Nat → List Int → List Int → Bool → Option (ByteArray × Bool)
 | 0, _, _, _ => none
 | k + 1, x0, x1, x17 => if x17 = true then (some ((⟨#[]⟩ : ByteArray), false)) else ((impl_isMajorized.f k x0 x1).bind fun t841 => ((impl_isMajorized.f k x1 x0).bind fun t842 => (if t841 = true then (impl_CompareLists.j1 k t841 t842 t842) else (impl_CompareLists.j1 k t841 t842 false))))
def impl_CompareLists.j1 : Nat → Bool → Bool → Bool → Option (ByteArray × Bool)
 | 0, _, _, _ => none
 | k + 1, x6, x7, x24 => if x24 = true then (some ((⟨#[101, 113, 117, 97, 108]⟩ : ByteArray), true)) else (if x6 = true then (some ((⟨#[108, 101, 115, 115]⟩ : ByteArray), true)) else (if x7 = true then (some ((⟨#[103, 114, 101, 97, 116, 101, 114]⟩ : ByteArray), true)) else (some ((⟨#[97, 112, 97, 114, 116]⟩ : ByteArray), true))))
end

def psums : Int → List Int → List Int
 | _, [] => []
 | s, x :: l => (s + x) :: psums (s + x) l
def psStep (s : List Int × Int) (x : Int) : List Int × Int := (s.1 ++ [s.2 + x], s.2 + x)
theorem foldl_ps : ∀ (l : List Int) (s : List Int × Int), (l.foldl psStep s).1 = s.1 ++ psums s.2 l
 | [], s => by simp [psums]
 | x :: l, s => by
  rw [List.foldl_cons, foldl_ps l]
  simp [psStep, psums]
theorem psums_length : ∀ (l : List Int) (s : Int), (psums s l).length = l.length
 | [], _ => rfl
 | x :: l, s => by simp [psums, psums_length l]
theorem liSums_ev (l : List Int) (h : Sm l) : Ev (fun k => spec_liSums.f k l) (psums 0 l) := by
 unfold spec_liSums.f
 have hl := h.1
 have h := ev_fold (xs := l) (g := fun k s i => spec_liSums.l0 k s.1 s.2 l (l.length : Int) i) psStep (fun s i => s.1.length = i ∧ 0 ≤ s.2 ∧ s.2 ≤ 1000 * (i : Int)) (fun s => s.1)
  (fun s _ => Ev.succ (by simp only [spec_liSums.l0, if_neg (Int.lt_irrefl _)]; exact Ev.now _))
  (fun i hi s r hs _ hr => Ev.succ (by
   have hb := h.2 _ (List.getElem_mem hi)
   simp only [spec_liSums.l0, if_pos (show (i : Int) < (l.length : Int) by omega), if_pos (show (0 : Int) ≤ (i : Int) by omega), rdn hi, if_pos (show s.1.length < 17592186044416 by omega), wsucc hi (by omega), w64 (x := s.2 + l[i]) (by omega) (by omega)]
   exact hr))
  (fun i hi s hs => by
   have hb := h.2 _ (List.getElem_mem hi)
   simp only [psStep, List.length_append, List.length_cons, List.length_nil]
   omega) l.length 0 ([], 0) (by omega) (taae)
 rw [List.drop_zero, foldl_ps] at h
 exact h
theorem partial_l (l : List Int) (h : Sm l) : Ev (fun k => impl_partial.l0 k [] 0 l (l.length : Int) 0) (psums 0 l) := by
 have hl := h.1
 have h := ev_fold (xs := l) (g := fun k s i => impl_partial.l0 k s.1 s.2 l (l.length : Int) i) psStep (fun s i => s.1.length = i ∧ 0 ≤ s.2 ∧ s.2 ≤ 1000 * (i : Int)) (fun s => s.1)
  (fun s _ => Ev.succ (by simp only [impl_partial.l0, if_neg (Int.lt_irrefl _)]; exact Ev.now _))
  (fun i hi s r hs _ hr => Ev.succ (by
   have hb := h.2 _ (List.getElem_mem hi)
   simp only [impl_partial.l0, if_pos (show (i : Int) < (l.length : Int) by omega), if_pos (show (0 : Int) ≤ (i : Int) by omega), rdn hi, if_pos (show s.1.length < 17592186044416 by omega), wsucc hi (by omega), w64 (x := s.2 + l[i]) (by omega) (by omega)]
   exact hr))
  (fun i hi s hs => by
   have hb := h.2 _ (List.getElem_mem hi)
   simp only [psStep, List.length_append, List.length_cons, List.length_nil]
   omega) l.length 0 ([], 0) (by omega) (taae)
 rw [List.drop_zero, foldl_ps] at h
 exact h
def partL (l : List Int) : List Int := psums 0 (descL l)
theorem liPartial_ev (l : List Int) (h : Sm l) : Ev (fun k => spec_liPartial.f k l) (partL l) := by
 unfold spec_liPartial.f
 exact Ev.bind (liRank_ev l (by have := h.1; omega)) (Ev.bind (liSums_ev _ (sm_desc h)) (Ev.now _))
theorem partial_ev (l : List Int) (h : Sm l) : Ev (fun k => impl_partial.f k l) (partL l) := by
 unfold impl_partial.f
 simp only [ranking_eq h, zbd]
 exact partial_l _ (sm_desc h)
theorem partL_length (l : List Int) : (partL l).length = l.length := by
 unfold partL
 rw [psums_length, descL_length]
def overL : Int → List Int → List Int → Int
 | i, x :: xs, y :: ys => if x > y then i + 1 else overL (i + 1) xs ys
 | _, _, _ => 0
theorem liOver_l (p q : List Int) (h : p.length ≤ q.length) (hp : p.length ≤ 1000000) : ∀ (n i : Nat), i + n = p.length → Ev (fun k => spec_liOver.l0 k p q (p.length : Int) (i : Int)) (overL (i : Int) (p.drop i) (q.drop i))
 | 0, i, hi => by
  refine Ev.succ ?_
  simp only [spec_liOver.l0, if_neg (show ¬ (i : Int) < (p.length : Int) by omega)]
  rw [List.drop_eq_nil_of_le (by omega), overL]
  exact Ev.now _
  simp
 | n + 1, i, hi => by
  have h1 : i < p.length := by omega
  have h2 : i < q.length := by omega
  refine Ev.succ ?_
  simp only [spec_liOver.l0, if_pos (show (i : Int) < (p.length : Int) by omega), if_pos (show (i : Int) < (q.length : Int) by omega), if_pos (show (0 : Int) ≤ (i : Int) by omega), rdn h1, rdn h2, wsucc h1 (by omega)]
  rw [List.drop_eq_getElem_cons h1, List.drop_eq_getElem_cons h2, overL]
  refine Ev.ite (fun _ => ?_) (fun _ => ?_)
  · rw [show ((i : Int) + 1) = ((i + 1 : Nat) : Int) by omega]
    exact Ev.now _
  · rw [show ((i : Int) + 1) = ((i + 1 : Nat) : Int) by omega]
    exact liOver_l p q h hp n (i + 1) (by omega)
theorem refused_l (p q : List Int) (h : p.length ≤ q.length) (hp : p.length ≤ 1000000) : ∀ (n i : Nat), i + n = p.length → Ev (fun k => impl_refused.l0 k q p (p.length : Int) (i : Int)) (overL (i : Int) (p.drop i) (q.drop i))
 | 0, i, hi => by
  refine Ev.succ ?_
  simp only [impl_refused.l0, if_neg (show ¬ (i : Int) < (p.length : Int) by omega)]
  rw [List.drop_eq_nil_of_le (by omega), overL]
  exact Ev.now _
  simp
 | n + 1, i, hi => by
  have h1 : i < p.length := by omega
  have h2 : i < q.length := by omega
  refine Ev.succ ?_
  simp only [impl_refused.l0, if_pos (show (i : Int) < (p.length : Int) by omega), if_pos (show (i : Int) < (q.length : Int) by omega), if_pos (show (0 : Int) ≤ (i : Int) by omega), rdn h1, rdn h2, wsucc h1 (by omega)]
  rw [List.drop_eq_getElem_cons h1, List.drop_eq_getElem_cons h2, overL]
  refine Ev.ite (fun _ => ?_) (fun _ => ?_)
  · rw [show ((i : Int) + 1) = ((i + 1 : Nat) : Int) by omega]
    exact Ev.now _
  · rw [show ((i : Int) + 1) = ((i + 1 : Nat) : Int) by omega]
    exact refused_l p q h hp n (i + 1) (by omega)
def overR (a b : List Int) : Int := overL 0 (partL a) (partL b)
theorem liOver_ev (a b : List Int) (ha : Sm a) (hb : Sm b) (h : a.length ≤ b.length) : Ev (fun k => spec_liOver.f k a b) (overR a b) := by
 unfold spec_liOver.f
 exact Ev.bind (liPartial_ev a ha) (Ev.bind (liPartial_ev b hb) (liOver_l _ _ (by rw [partL_length, partL_length]; exact h) (by rw [partL_length]; have := ha.1; omega) (partL a).length 0 (by omega)))
theorem refused_ev (a b : List Int) (ha : Sm a) (hb : Sm b) (h : a.length ≤ b.length) : Ev (fun k => impl_refused.f k a b) (overR a b) := by
 unfold impl_refused.f
 exact Ev.bind (partial_ev b hb) (Ev.bind (partial_ev a ha) (refused_l _ _ (by rw [partL_length, partL_length]; exact h) (by rw [partL_length]; have := ha.1; omega) (partL a).length 0 (by omega)))
theorem overL_zero : ∀ (p q : List Int) (i : Int), 0 ≤ i → (overL i p q = 0 ↔ ∀ (j : Nat) (h1 : j < p.length) (h2 : j < q.length), p[j] ≤ q[j])
 | [], q, i, _ => by simp [overL]
 | x :: p, [], i, _ => by simp [overL]
 | x :: p, y :: q, i, h => by
  unfold overL
  by_cases c : x > y
  · rw [if_pos c]
    refine ⟨fun h' => by omega, fun h' => ?_⟩
    have := h' 0 (taae) (taae)
    simp only [List.getElem_cons_zero] at this
    omega
  · rw [if_neg c, overL_zero p q (i + 1) (by omega)]
    constructor
    · intro h' j h1 h2
      cases j with
      | zero => simp only [List.getElem_cons_zero]; omega
      | succ j =>
       rw [List.getElem_cons_succ, List.getElem_cons_succ]
       exact h' j (by rw [List.length_cons] at h1; omega) (by rw [List.length_cons] at h2; omega)
    · intro h' j h1 h2
      have h3 := h' (j + 1) (by rw [List.length_cons]; omega) (by rw [List.length_cons]; omega)
      rw [List.getElem_cons_succ, List.getElem_cons_succ] at h3
      exact h3
def majB (a b : List Int) : Bool := if fitB a b = true then (overR a b == 0) else false
theorem liBelow_ev (a b : List Int) (ha : Sm a) (hb : Sm b) : Ev (fun k => spec_liBelow.f k a b) (majB a b) := by
 unfold spec_liBelow.f majB
 exact Ev.bind (liFit_ev a b ha hb) (Ev.ite (fun h => Ev.bind (liOver_ev a b ha hb (by have := (fitB_iff a b).1 h; omega)) (Ev.now _)) (fun _ => Ev.now _))
theorem isMajorized_ev (a b : List Int) (ha : Sm a) (hb : Sm b) : Ev (fun k => impl_isMajorized.f k a b) (majB a b) := by
 unfold impl_isMajorized.f majB
 exact Ev.bind (doFit_ev a b ha hb) (Ev.ite (fun h => Ev.bind (refused_ev a b ha hb (by have := (fitB_iff a b).1 h; omega)) (Ev.now _)) (fun _ => Ev.now _))
theorem majB_iff (a b : List Int) : majB a b = true ↔ a.length = b.length ∧ a.sum = b.sum ∧ ∀ (j : Nat) (h1 : j < (partL a).length) (h2 : j < (partL b).length), (partL a)[j] ≤ (partL b)[j] := by
 unfold majB overR
 by_cases h : fitB a b = true
 · rw [if_pos h, beq_iff_eq, overL_zero _ _ _ (Int.le_refl _)]
   have := (fitB_iff a b).1 h
   simp only [this, true_and]
 · rw [if_neg h]
   rw [fitB_iff] at h
   constructor
   · intro h'
     exact absurd h' (by decide)
   · intro h'
     exact absurd ⟨h'.1, h'.2.1⟩ h
theorem l1Same_l (xs ys : List Int) (hx : xs.length ≤ 9223372036854775807) (hl : xs.length = ys.length) : ∀ (n i : Nat), i + n = xs.length → Ev (fun k => spec_l1Same.l0 k xs ys (xs.length : Int) (i : Int)) (decide (xs.drop i = ys.drop i))
 | 0, i, h => by
  refine Ev.succ ?_
  simp only [spec_l1Same.l0, if_neg (show ¬ (i : Int) < (xs.length : Int) by omega)]
  rw [List.drop_eq_nil_of_le (by omega), List.drop_eq_nil_of_le (by omega)]
  exact Ev.now _
 | n + 1, i, h => by
  have hi : i < xs.length := by omega
  have hj : i < ys.length := by omega
  refine Ev.succ ?_
  simp only [spec_l1Same.l0, if_pos (show (i : Int) < (xs.length : Int) by omega), if_pos (show (i : Int) < (ys.length : Int) by omega), if_pos (show (0 : Int) ≤ (i : Int) by omega), rdn hi, rdn hj, wsucc hi hx]
  rw [List.drop_eq_getElem_cons hi, List.drop_eq_getElem_cons hj]
  by_cases c : xs[i] = ys[i]
  · simp only [c, if_true, List.cons.injEq, true_and]
    exact l1Same_l xs ys hx hl n (i + 1) (by omega)
  · simp only [c, if_false, List.cons.injEq, false_and, decide_false]
    exact Ev.now _
theorem l1Same_ev (xs ys : List Int) (hx : xs.length ≤ 9223372036854775807) : Ev (fun k => spec_l1Same.f k xs ys) (decide (xs = ys)) := by
 unfold spec_l1Same.f
 by_cases h : xs.length = ys.length
 · simp only [if_pos (show (xs.length : Int) = (ys.length : Int) by omega)]
   exact l1Same_l xs ys hx h xs.length 0 (by omega)
 · simp only [if_neg (show ¬ (xs.length : Int) = (ys.length : Int) by omega)]
   rw [zbj (fun e => h (by rw [e]))]
   exact Ev.now _

mutual
def impl_conjugate.l0 : Nat → Int → List Int → List Int → Int → Int → Option (List Int)
 | 0, _, _, _, _, _ => none
 | k + 1, x1, x5, x11, x12, x13 => if x13 < x12 then (if 0 ≤ x13 then (if x13 < (x11.length : Int) then (impl_conjugate.l1 k x1 x5 x11 x12 x13 (mn (rd x11 x13) x1) 0) else (none)) else (none)) else (some x5)
def impl_conjugate.l1 : Nat → Int → List Int → List Int → Int → Int → Int → Int → Option (List Int)
 | 0, _, _, _, _, _, _, _ => none
 | k + 1, x1, x5, x11, x12, x13, x19, x20 => if x20 < x19 then (if 0 ≤ x20 then (if x20 < (x5.length : Int) then (impl_conjugate.l1 k x1 (x5.set (x20 : Int).toNat (wrap64 ((rd x5 x20) + 1))) x11 x12 x13 x19 (wrap64 (x20 + 1))) else (none)) else (none)) else (impl_conjugate.l0 k x1 x5 x11 x12 (wrap64 (x13 + 1)))
end
mutual
def spec_liConjugate.l0 : Nat → Int → List Int → List Int → Int → Int → Option (List Int)
 | 0, _, _, _, _, _ => none
 | k + 1, x1, x5, x11, x12, x13 => if x13 < x12 then (if 0 ≤ x13 then (if x13 < (x11.length : Int) then (spec_liConjugate.l1 k x1 x5 (rd x11 x13) 0 x11 x12 x13) else (none)) else (none)) else (some x5)
def spec_liConjugate.l1 : Nat → Int → List Int → Int → Int → List Int → Int → Int → Option (List Int)
 | 0, _, _, _, _, _, _, _ => none
 | k + 1, x1, x5, x7, x8, x11, x12, x13 => if x8 < x7 then (if x8 < x1 then (if 0 ≤ x8 then (if x8 < (x5.length : Int) then (spec_liConjugate.l1 k x1 (x5.set (x8 : Int).toNat (wrap64 ((rd x5 x8) + 1))) x7 (wrap64 (x8 + 1)) x11 x12 x13) else (none)) else (none)) else (spec_liConjugate.l0 k x1 x5 x11 x12 (wrap64 (x13 + 1)))) else (spec_liConjugate.l0 k x1 x5 x11 x12 (wrap64 (x13 + 1)))
end


def spec_liFrom.l0 : Nat → List Int → Int → List Int → Int → Int → Option (List Int)
 | 0, _, _, _, _, _ => none
 | k + 1, x3, x4, x7, x8, x9 => if x9 < x8 then (if 0 ≤ x9 then (if x9 < (x7.length : Int) then (if x3.length < 17592186044416 then (spec_liFrom.l0 k (x3 ++ [wrap64 ((rd x7 x9) - x4)]) (rd x7 x9) x7 x8 (wrap64 (x9 + 1))) else (none)) else (none)) else (none)) else (some x3)
def spec_liFrom.f (k : Nat) (l0 : List Int) : Option (List Int) := spec_liFrom.l0 k ([] : List Int) 0 l0 (l0.length : Int) 0

mutual
def spec_MeetOf.j0 : Nat → List Int → List Int → Bool → Option (List Int × Bool)
 | 0, _, _, _ => none
 | k + 1, x0, x1, x23 => if x23 = true then (some (([] : List Int), false)) else ((spec_liPartial.f k x0).bind fun t1011 => ((spec_liPartial.f k x1).bind fun t1014 => (spec_MeetOf.l0 k t1011 t1014 ([] : List Int) (t1011.length : Int) 0)))
def spec_MeetOf.l0 : Nat → List Int → List Int → List Int → Int → Int → Option (List Int × Bool)
 | 0, _, _, _, _, _ => none
 | k + 1, x6, x7, x8, x29, x30 => if x30 < x29 then (if 0 ≤ x30 then (if x30 < (x6.length : Int) then (if x30 < (x7.length : Int) then ((spec_l1Least.f (rd x6 x30) (rd x7 x30)).bind fun t1019 => (if x8.length < 17592186044416 then (spec_MeetOf.l0 k x6 x7 (x8 ++ [t1019]) x29 (wrap64 (x30 + 1))) else (none))) else (none)) else (none)) else (none)) else ((spec_liFrom.f k x8).bind fun t1023 => (some (t1023, true)))
end



def pre (x : List Int) (m : Nat) : Int := (x.take m).sum
theorem pre_zero (x : List Int) : pre x 0 = 0 := rfl
theorem pre_succ {x : List Int} {m : Nat} (h : m < x.length) : pre x (m + 1) = pre x m + rd x (m : Int) := by
 unfold pre
 rw [List.take_succ_eq_append_getElem h, List.sum_append, rdn h, List.sum_cons, List.sum_nil, Int.add_zero]
theorem pre_all {x : List Int} {m : Nat} (h : x.length ≤ m) : pre x m = x.sum := by
 unfold pre
 rw [List.take_of_length_le h]
theorem psums_get : ∀ (l : List Int) (s : Int) (j : Nat) (h : j < (psums s l).length), (psums s l)[j] = s + pre l (j + 1)
 | [], s, j, h => by simp [psums] at h
 | x :: l, s, 0, h => by simp [psums, pre]
 | x :: l, s, j + 1, h => by
  have h' : j < (psums (s + x) l).length := by
   rw [psums, List.length_cons] at h
   omega
  have := psums_get l (s + x) j h'
  simp only [psums, List.getElem_cons_succ]
  rw [this]
  simp only [pre, List.take_succ_cons, List.sum_cons]
  omega
def Dom (x t : List Int) : Prop := x.length = t.length ∧ x.sum = t.sum ∧ ∀ m, pre t m ≤ pre x m
theorem majB_dom (a b : List Int) : majB a b = true ↔ Dom (descL b) (descL a) := by
 rw [majB_iff]
 unfold Dom
 rw [descL_length, descL_length, descL_sum, descL_sum]
 constructor
 · rintro ⟨h1, h2, h3⟩
   refine ⟨h1.symm, h2.symm, fun m => ?_⟩
   cases m with
   | zero => rw [pre_zero, pre_zero]; exact Int.le_refl _
   | succ m =>
    by_cases hm : m < a.length
    · have h := h3 m (by rw [partL_length]; exact hm) (by rw [partL_length]; omega)
      unfold partL at h
      rw [psums_get, psums_get] at h
      omega
    · rw [pre_all (by rw [descL_length]; omega), pre_all (by rw [descL_length]; omega), descL_sum, descL_sum]
      omega
 · rintro ⟨h1, h2, h3⟩
   refine ⟨h1.symm, h2.symm, fun j q1 q2 => ?_⟩
   have e1 : (partL a)[j] = 0 + pre (descL a) (j + 1) := psums_get _ _ _ q1
   have e2 : (partL b)[j] = 0 + pre (descL b) (j + 1) := psums_get _ _ _ q2
   have := h3 (j + 1)
   omega
theorem ext_rd {x t : List Int} (hl : x.length = t.length) (h : ∀ k : Nat, k < x.length → rd x (k : Int) = rd t (k : Int)) : x = t := by
 refine List.ext_getElem hl fun k h1 h2 => ?_
 have := h k h1
 rw [rdn h1, rdn h2] at this
 exact this
theorem desc_rd {x : List Int} (h : Desc x) {a b : Nat} (hab : a ≤ b) (hb : b < x.length) : rd x (b : Int) ≤ rd x (a : Int) := by
 rw [rdn hb, rdn (show a < x.length by omega)]
 rcases Nat.lt_or_ge a b with hlt | hge
 · unfold Desc at h
   exact List.pairwise_iff_getElem.1 h a b (by omega) hb hlt
 · have : a = b := by omega
   subst this; exact Int.le_refl _
theorem desc_of_rd {x : List Int} (h : ∀ k : Nat, k + 1 < x.length → rd x ((k + 1 : Nat) : Int) ≤ rd x (k : Int)) : Desc x := by
 have key : ∀ (d a : Nat), a + d < x.length → rd x ((a + d : Nat) : Int) ≤ rd x (a : Int) := by
  intro d
  induction d with
  | zero => intro a _; exact Int.le_refl _
  | succ d ih =>
   intro a ha
   have h1 := ih a (by omega)
   have h2 := h (a + d) (by omega)
   have e : a + (d + 1) = a + d + 1 := by omega
   rw [e]
   omega
 unfold Desc
 rw [List.pairwise_iff_getElem]
 intro i j hi hj hij
 have := key (j - i) i (by omega)
 rw [show i + (j - i) = j from by omega, rdn hj, rdn hi] at this
 exact this
structure Nx (x t : List Int) (i j : Nat) : Prop where
 lt : i < j
 hj : j < x.length
 jlt : rd x (j : Int) < rd t (j : Int)
 bef : ∀ k : Nat, k < j → rd t (k : Int) ≤ rd x (k : Int)
 igt : rd t (i : Int) < rd x (i : Int)
 btw : ∀ k : Nat, i < k → k < j → rd x (k : Int) ≤ rd t (k : Int)
theorem least_lt (P : Nat → Prop) (n : Nat) : (∃ k, k < n ∧ P k) → ∃ j, j < n ∧ P j ∧ ∀ k, k < j → ¬ P k := by
 induction n with
 | zero => rintro ⟨k, hk, _⟩; omega
 | succ n ih =>
  rintro ⟨k, hk, hp⟩
  by_cases h : ∃ k, k < n ∧ P k
  · obtain ⟨j, h1, h2, h3⟩ := ih h
    exact ⟨j, by omega, h2, h3⟩
  · refine ⟨k, hk, hp, fun q hq hpq => h ⟨q, by omega, hpq⟩⟩
theorem last_lt (P : Nat → Prop) (n : Nat) : (∃ k, k < n ∧ P k) → ∃ j, j < n ∧ P j ∧ ∀ k, j < k → k < n → ¬ P k := by
 induction n with
 | zero => rintro ⟨k, hk, _⟩; omega
 | succ n ih =>
  rintro ⟨k, hk, hp⟩
  by_cases h : P n
  · exact ⟨n, by omega, h, fun q h1 h2 => by omega⟩
  · have hk' : k < n := by
     rcases Nat.lt_or_ge k n with h' | h'
     · exact h'
     · have : k = n := by omega
       subst this; exact absurd hp h
    obtain ⟨j, h1, h2, h3⟩ := ih ⟨k, hk', hp⟩
    refine ⟨j, by omega, h2, fun q hq hq2 => ?_⟩
    rcases Nat.lt_or_ge q n with h' | h'
    · exact h3 q hq h'
    · have : q = n := by omega
      subst this; exact h
theorem pre_le {x t : List Int} (hl : x.length = t.length) : ∀ m : Nat, m ≤ x.length → (∀ k : Nat, k < m → rd x (k : Int) ≤ rd t (k : Int)) → pre x m ≤ pre t m
 | 0, _, _ => by rw [pre_zero, pre_zero]; exact Int.le_refl _
 | m + 1, hm, h => by
  have ih := pre_le hl m (by omega) (fun k hk => h k (by omega))
  have := h m (by omega)
  rw [pre_succ (by omega), pre_succ (by omega)]
  omega
theorem pre_lt {x t : List Int} (hl : x.length = t.length) : ∀ m : Nat, m ≤ x.length → (∀ k : Nat, k < m → rd x (k : Int) ≤ rd t (k : Int)) → (∃ k : Nat, k < m ∧ rd x (k : Int) < rd t (k : Int)) → pre x m < pre t m
 | 0, _, _, ⟨k, hk, _⟩ => by omega
 | m + 1, hm, h, ⟨k, hk, hk2⟩ => by
  have h2 := h m (by omega)
  rw [pre_succ (by omega), pre_succ (by omega)]
  rcases Nat.lt_or_ge k m with hlt | hge
  · have := pre_lt hl m (by omega) (fun k hk => h k (by omega)) ⟨k, hlt, hk2⟩
    omega
  · have : k = m := by omega
    subst this; have := pre_le hl k (by omega) (fun k hk => h k (by omega))
    omega
theorem nx_exists {x t : List Int} (hd : Dom x t) (hne : x ≠ t) : ∃ i j, Nx x t i j := by
 obtain ⟨hl, hs, hp⟩ := hd
 have h1 : ∃ k : Nat, k < x.length ∧ rd x (k : Int) < rd t (k : Int) := by
  refine Classical.byContradiction fun hno => ?_
  have hge : ∀ k : Nat, k < x.length → rd t (k : Int) ≤ rd x (k : Int) := fun k hk => by
   rcases Int.lt_or_le (rd x (k : Int)) (rd t (k : Int)) with h | h
   · exact absurd ⟨k, hk, h⟩ hno
   · exact h
  refine hne (ext_rd hl fun k hk => ?_)
  rcases Int.lt_or_le (rd t (k : Int)) (rd x (k : Int)) with h | h
  · have := pre_lt hl.symm x.length (by omega) (fun k hk => hge k hk) ⟨k, hk, h⟩
    rw [pre_all (by omega), pre_all (by omega)] at this
    omega
  · have := hge k hk
    omega
 obtain ⟨j, hj, hjlt, hbef⟩ := least_lt _ _ h1
 have hbef' : ∀ k : Nat, k < j → rd t (k : Int) ≤ rd x (k : Int) := fun k hk => by
  have := hbef k hk
  omega
 have h2 : ∃ k : Nat, k < j ∧ rd t (k : Int) < rd x (k : Int) := by
  refine Classical.byContradiction fun hno => ?_
  have hle : ∀ k : Nat, k < j + 1 → rd x (k : Int) ≤ rd t (k : Int) := fun k hk => by
   rcases Nat.lt_or_ge k j with h | h
   · rcases Int.lt_or_le (rd t (k : Int)) (rd x (k : Int)) with h' | h'
     · exact absurd ⟨k, h, h'⟩ hno
     · exact h'
   · have : k = j := by omega
     subst this; omega
  have := pre_lt hl (j + 1) (by omega) hle ⟨j, by omega, hjlt⟩
  have := hp (j + 1)
  omega
 obtain ⟨i, hi, higt, hbtw⟩ := last_lt _ _ h2
 exact ⟨i, j, hi, hj, hjlt, hbef', higt, fun k h1 h2 => by
  have := hbtw k h1 h2
  omega⟩
theorem giveL_length (l : List Int) (f t a : Int) : (giveL l f t a).length = l.length := by
 unfold giveL
 rw [List.length_set, List.length_set]
theorem giveL_rd (l : List Int) (i j : Nat) (a : Int) (hi : i < l.length) (hj : j < l.length) (hij : i ≠ j) (k : Nat) : rd (giveL l (i : Int) (j : Int) a) (k : Int) = if k = j then rd l (j : Int) + a else if k = i then rd l (i : Int) - a else rd l (k : Int) := by
 unfold giveL
 by_cases h1 : k = j
 · subst h1
   rw [if_pos rfl, rd_set_self _ (by omega) (by rw [List.length_set]; omega)]
 · rw [if_neg h1, rd_set_ne _ (by omega) (by omega) (by omega)]
   by_cases h2 : k = i
   · subst h2
     rw [if_pos rfl, rd_set_self _ (by omega) (by omega)]
   · rw [if_neg h2, rd_set_ne _ (by omega) (by omega) (by omega)]
theorem giveL_pre (l : List Int) (i j : Nat) (a : Int) (hi : i < l.length) (hj : j < l.length) (hij : i ≠ j) : ∀ m : Nat, m ≤ l.length → pre (giveL l (i : Int) (j : Int) a) m = pre l m - (if i < m then a else 0) + (if j < m then a else 0)
 | 0, _ => by rw [pre_zero, pre_zero, if_neg (by omega), if_neg (by omega)]; omega
 | m + 1, h => by
  rw [pre_succ (tacb), pre_succ (by omega), giveL_pre l i j a hi hj hij m (by omega), giveL_rd l i j a hi hj hij m]
  by_cases h1 : m = j
  · subst h1
    rw [if_pos rfl, if_neg (show ¬ m < m by omega), if_pos (show m < m + 1 by omega)]
    by_cases h3 : i < m
    · rw [if_pos h3, if_pos (by omega)]; omega
    · rw [if_neg h3, if_neg (by omega)]; omega
  · rw [if_neg h1]
    by_cases h2 : m = i
    · subst h2
      rw [if_pos rfl, if_neg (show ¬ m < m by omega), if_pos (show m < m + 1 by omega)]
      by_cases h3 : j < m
      · rw [if_pos h3, if_pos (by omega)]; omega
      · rw [if_neg h3, if_neg (by omega)]; omega
    · rw [if_neg h2]
      have e1 : i < m + 1 ↔ i < m := by omega
      have e2 : j < m + 1 ↔ j < m := by omega
      simp only [e1, e2]
      omega
theorem giveL_sum (l : List Int) (i j : Nat) (a : Int) (hi : i < l.length) (hj : j < l.length) (hij : i ≠ j) : (giveL l (i : Int) (j : Int) a).sum = l.sum := by
 have h := giveL_pre l i j a hi hj hij l.length (zch _)
 rw [pre_all (tacb), pre_all (zch _), if_pos hi, if_pos hj] at h
 omega
def ex (l : List Int) (t : Int) : Int := (l.map fun x => max (x - t) 0).sum
theorem ex_nil (t : Int) : ex [] t = 0 := rfl
theorem ex_cons (x : Int) (l : List Int) (t : Int) : ex (x :: l) t = max (x - t) 0 + ex l t := by simp [ex]
theorem ex_perm {a b : List Int} (h : a.Perm b) (t : Int) : ex a t = ex b t := perm_sum (h.map _)
theorem ex_desc (a : List Int) (t : Int) : ex (descL a) t = ex a t := ex_perm (descL_perm a) t
theorem ex_nn : ∀ (l : List Int) (t : Int), 0 ≤ ex l t
 | [], t => by rw [ex_nil]; exact Int.le_refl _
 | x :: l, t => by
  have := ex_nn l t
  rw [ex_cons]
  omega
theorem pre_cons (x : Int) (l : List Int) (m : Nat) : pre (x :: l) (m + 1) = x + pre l m := by simp [pre]
theorem pre_ex (t : Int) : ∀ (l : List Int) (m : Nat), m ≤ l.length → pre l m ≤ m * t + ex l t
 | l, 0, _ => by
  have := ex_nn l t
  rw [pre_zero]
  simp
  exact this
 | [], m + 1, h => by simp at h
 | x :: l, m + 1, h => by
  have ih := pre_ex t l m (taaz)
  rw [pre_cons, ex_cons, Int.natCast_add, Int.add_mul]
  simp only [Int.natCast_one, Int.one_mul]
  omega
theorem pre_ex_eq (t : Int) : ∀ (l : List Int) (k : Nat), k ≤ l.length → (∀ i (h : i < l.length), i < k → t ≤ l[i]) → (∀ i (h : i < l.length), k ≤ i → l[i] ≤ t) → pre l k = k * t + ex l t
 | [], k, h, _, _ => by
  have : k = 0 := by simpa using h
  subst this; simp [pre_zero, ex_nil]
 | x :: l, 0, h, h1, h2 => by
  have ih := pre_ex_eq t l 0 (Nat.zero_le _) (fun i _ hi => absurd hi (Nat.not_lt_zero _)) (fun i hi _ => h2 (i + 1) (by simpa using hi) (Nat.zero_le _))
  have hx : x ≤ t := h2 0 (taae) (zch _)
  rw [pre_zero] at ih ⊢
  rw [ex_cons]
  simp at ih ⊢
  omega
 | x :: l, k + 1, h, h1, h2 => by
  have ih := pre_ex_eq t l k (taaz) (fun i hi hk => h1 (i + 1) (by simpa using hi) (by omega)) (fun i hi hk => h2 (i + 1) (by simpa using hi) (by omega))
  have hx : t ≤ x := h1 0 (taae) (by omega)
  rw [pre_cons, ex_cons, Int.natCast_add, Int.add_mul]
  simp only [Int.natCast_one, Int.one_mul]
  omega
theorem cut_exists (t : Int) : ∀ (l : List Int), Desc l → ∃ k, k ≤ l.length ∧ (∀ i (h : i < l.length), i < k → t ≤ l[i]) ∧ (∀ i (h : i < l.length), k ≤ i → l[i] ≤ t)
 | [], _ => ⟨0, zch _, fun i h => absurd h (Nat.not_lt_zero _), fun i h => absurd h (Nat.not_lt_zero _)⟩
 | x :: l, hd => by
  unfold Desc at hd
  rw [List.pairwise_cons] at hd
  by_cases hx : t ≤ x
  · obtain ⟨k, h1, h2, h3⟩ := cut_exists t l hd.2
    refine ⟨k + 1, by simpa using h1, fun i h hi => ?_, fun i h hi => ?_⟩
    · cases i with
      | zero => exact hx
      | succ i => exact h2 i (taaz) (by omega)
    · cases i with
      | zero => omega
      | succ i => exact h3 i (taaz) (by omega)
  · refine ⟨0, Nat.zero_le _, fun i h hi => absurd hi (Nat.not_lt_zero _), fun i h _ => ?_⟩
    cases i with
    | zero =>
     show x ≤ t
     omega
    | succ i =>
     have hi : i < l.length := by simpa using h
     have := hd.1 l[i] (List.getElem_mem hi)
     show l[i] ≤ t
     omega
theorem ex_pre {l : List Int} (hd : Desc l) (t : Int) : ∃ k, k ≤ l.length ∧ pre l k = k * t + ex l t := by
 obtain ⟨k, h1, h2, h3⟩ := cut_exists t l hd
 exact ⟨k, h1, pre_ex_eq t l k h1 h2 h3⟩
theorem pre_at {l : List Int} (hd : Desc l) (m : Nat) (hm : m < l.length) : pre l (m + 1) = (m + 1 : Nat) * rd l (m : Int) + ex l (rd l (m : Int)) := by
 refine pre_ex_eq _ l (m + 1) hm (fun i h hi => ?_) (fun i h hi => ?_)
 · have := desc_rd hd (show i ≤ m by omega) hm
   rw [rdn h] at this
   exact this
 · have := desc_rd hd (show m ≤ i by omega) h
   rw [rdn h] at this
   exact this
theorem dom_ex {x y : List Int} (hx : Desc x) (hy : Desc y) : Dom y x ↔ x.length = y.length ∧ x.sum = y.sum ∧ ∀ t, ex x t ≤ ex y t := by
 unfold Dom
 constructor
 · rintro ⟨h1, h2, h3⟩
   refine ⟨h1.symm, h2.symm, fun t => ?_⟩
   obtain ⟨k, hk, e⟩ := ex_pre hx t
   have a := h3 k; have b := pre_ex t y k (by omega)
   omega
 · rintro ⟨h1, h2, h3⟩
   refine ⟨h1.symm, h2.symm, fun m => ?_⟩
   cases m with
   | zero => rw [pre_zero, pre_zero]; exact Int.le_refl _
   | succ m =>
    by_cases hm : m < y.length
    · have a := pre_at hy m hm
      have b := pre_ex (rd y (m : Int)) x (m + 1) (by omega)
      have c := h3 (rd y (m : Int))
      omega
    · rw [pre_all (by omega), pre_all (by omega)]
      omega
theorem maj_ex (a b : List Int) : majB a b = true ↔ a.length = b.length ∧ a.sum = b.sum ∧ ∀ t, ex a t ≤ ex b t := by
 rw [majB_dom, dom_ex (descL_desc a) (descL_desc b), descL_length, descL_length, descL_sum, descL_sum]
 simp only [ex_desc]
theorem maj_trans {a b c : List Int} (h1 : majB a b = true) (h2 : majB b c = true) : majB a c = true := by
 rw [maj_ex] at *
 exact ⟨by omega, by omega, fun t => Int.le_trans (h1.2.2 t) (h2.2.2 t)⟩
theorem maj_refl (a : List Int) : majB a a = true := (maj_ex a a).2 ⟨rfl, rfl, fun _ => Int.le_refl _⟩
theorem maj_desc_l (a b : List Int) : majB (descL a) b = majB a b := by
 rw [Bool.eq_iff_iff, maj_ex, maj_ex, descL_length, descL_sum]
 simp only [ex_desc]
theorem maj_desc_r (a b : List Int) : majB a (descL b) = majB a b := by
 rw [Bool.eq_iff_iff, maj_ex, maj_ex, descL_length, descL_sum]
 simp only [ex_desc]

def spec_l1Most.f (a0 : Int) (a1 : Int) : Option (Int) := if a0 > a1 then (some a0) else (some a1)
def spec_l1Cur_gift.f (s0_0 : List Int) (s0_1 : Int) (s0_2 : Int) (l1 : List Int) : Option (Int × Int × Int × Int × Int) := (spec_l1Most.f 1 (l1.length : Int)).bind fun t432 => ((spec_l1Cur_pick.f s0_0 s0_1 s0_2 t432).bind fun bt433 => ((spec_l1Cur_pick.f s0_0 bt433.2.1 bt433.2.2 t432).bind fun bt436 => ((spec_l1Cur_pick.f s0_0 bt436.2.1 bt436.2.2 3).bind fun bt439 => ((spec_l1Cur_pick.f s0_0 bt439.2.1 bt439.2.2 12).bind fun bt443 => (if bt443.1 = 0 then ((spec_l1Cur_among.f s0_0 bt443.2.1 bt443.2.2 (([(-1), 0, 60, 61] : List Int))).bind fun bt449 => (some (bt433.1, bt436.1, bt449.1, bt449.2.1, bt449.2.2))) else (if bt443.1 = 1 then ((spec_l1Cur_among.f s0_0 bt443.2.1 bt443.2.2 (([(-1), t432, bt433.1] : List Int))).bind fun bt455 => (some (bt433.1, bt455.1, wrap64 (1 + bt439.1), bt455.2.1, bt455.2.2))) else (some (bt433.1, bt436.1, wrap64 (1 + bt439.1), bt443.2.1, bt443.2.2))))))))
mutual
def spec_DrawIsGiftPath.j0 : Nat → List Int → List Int → List (S39) → List Int → Int → Int → Option (List Int × List Int × (List (S39)))
 | 0, _, _, _, _, _, _ => none
 | k + 1, x6, x7, x8, x1488000, x1488001, x1488002 => (spec_l1Cur_pick.f x1488000 x1488001 x1488002 8).bind fun bt1503 => (if bt1503.1 = 0 then ((spec_l1Cur_gift.f x1488000 bt1503.2.1 bt1503.2.2 x6).bind fun bt1506 => (if x8.length < 5864062014805 then (some (x6, x7, (x8 ++ [(⟨bt1506.1, bt1506.2.1, bt1506.2.2.1⟩ : S39)]))) else (none))) else (if bt1503.1 = 1 then (if (x8.length : Int) > 0 then ((spec_l1Cur_pick.f x1488000 bt1503.2.1 bt1503.2.2 (x8.length : Int)).bind fun bt1514 => ((spec_l1Cur_gift.f x1488000 bt1514.2.1 bt1514.2.2 x6).bind fun bt1517 => (if 0 ≤ bt1514.1 then (if bt1514.1 < (x8.length : Int) then (some (x6, x7, (x8.set (bt1514.1 : Int).toNat (⟨bt1517.1, bt1517.2.1, bt1517.2.2.1⟩ : S39)))) else (none)) else (none)))) else (some (x6, x7, x8))) else (if bt1503.1 = 2 then ((spec_l1Cur_pick.f x1488000 bt1503.2.1 bt1503.2.2 2).bind fun bt1523 => (if 0 ≤ (wrap64 (240 + bt1523.1)) then (if (wrap64 (240 + bt1523.1) : Int).toNat ≤ 11728124029610 then ((some (List.replicate (wrap64 (240 + bt1523.1) : Int).toNat z39 : List (S39))).bind fun y1526 => (spec_DrawIsGiftPath.l0 k x6 x7 y1526 (y1526.length : Int) 0)) else (none)) else (none))) else (some (x6, x7, x8)))))
def spec_DrawIsGiftPath.l0 : Nat → List Int → List Int → List (S39) → Int → Int → Option (List Int × List Int × (List (S39)))
 | 0, _, _, _, _, _ => none
 | k + 1, x6, x7, x8, x57, x58 => if x58 < x57 then (if 0 ≤ x58 then (if x58 < (x8.length : Int) then (spec_DrawIsGiftPath.l0 k x6 x7 (x8.set (x58 : Int).toNat (⟨0, 1, 1⟩ : S39)) x57 (wrap64 (x58 + 1))) else (none)) else (none)) else (some (x6, x7, x8))
end
mutual
def spec_DrawFollowGifts.j0 : Nat → List Int → List Int → Bool → List Int → Int → Int → Option (List Int × (List (S39)))
 | 0, _, _, _, _, _, _ => none
 | k + 1, x5, x6, x24, x1547000, x1547001, x1547002 => if x24 = true then ((spec_l1Cur_one.f x1547000 x1547001 x1547002 2).bind fun bt1559 => ((spec_giPath.f k x5 x6 bt1559.1).bind fun t1562 => (some (x6, t1562)))) else ((spec_l1Cur_pick.f x1547000 x1547001 x1547002 4).bind fun bt1565 => (spec_DrawFollowGifts.l0 k x6 ([] : List (S39)) bt1565.1 x1547000 bt1565.2.1 bt1565.2.2))
def spec_DrawFollowGifts.l0 : Nat → List Int → List (S39) → Int → List Int → Int → Int → Option (List Int × (List (S39)))
 | 0, _, _, _, _, _, _ => none
 | k + 1, x6, x7, x8, x1547000, x1547001, x1547002 => if x8 > 0 then ((spec_l1Cur_gift.f x1547000 x1547001 x1547002 x6).bind fun bt1568 => (if x7.length < 5864062014805 then (spec_DrawFollowGifts.l0 k x6 (x7 ++ [(⟨bt1568.1, bt1568.2.1, bt1568.2.2.1⟩ : S39)]) (wrap64 (x8 - 1)) x1547000 bt1568.2.2.2.1 bt1568.2.2.2.2) else (none))) else (some (x6, x7))
end
theorem tmod_bd (x n : Int) (h0 : 0 ≤ x) (hn : 0 < n) : 0 ≤ Int.tmod x n ∧ Int.tmod x n < n := by
 rw [Int.tmod_eq_emod_of_nonneg h0]
 exact ⟨Int.emod_nonneg _ (by omega), Int.emod_lt_of_pos _ hn⟩
theorem and255 (z : Int) : 0 ≤ Go.bits .and .u64 (IntKind.u64.wrap z / 1099511627776) 255 ∧ Go.bits .and .u64 (IntKind.u64.wrap z / 1099511627776) 255 ≤ 255 := by
 have e := IntKind.wrap_u64 z
 have h := bits_mask .u64 64 (by decide) wraps_u64 8 (by decide) (IntKind.u64.wrap z / 1099511627776) (by omega) (by omega)
 have h' : Go.bits .and .u64 (IntKind.u64.wrap z / 1099511627776) 255 = IntKind.u64.wrap z / 1099511627776 % 256 := by simpa using h
 rw [h']
 omega
def Bytes (l : List Int) : Prop := l.length ≤ 1048576 ∧ ∀ x ∈ l, 0 ≤ x ∧ x ≤ 255
theorem next_ev (l : List Int) (hl : Bytes l) (a s : Int) (h0 : 0 ≤ a) (h1 : a ≤ 1000000000) : ∃ x s', spec_l1Cur_next.f l a s = some (x, a + 1, s') ∧ 0 ≤ x ∧ x ≤ 255 := by
 have hb := hl.1
 unfold spec_l1Cur_next.f
 rw [w64 (x := a + 1) (by omega) (by omega)]
 by_cases c : a < (l.length : Int)
 · simp only [if_pos c, if_pos h0]
   have hx := hl.2 _ (rd_mem h0 c)
   by_cases c2 : a + 1 ≤ (l.length : Int)
   · simp only [if_pos c2]
     refine ⟨_, _, rfl, ?_⟩
     rw [w64 (by omega) (by omega)]
     exact hx
   · omega
 · simp only [if_neg c]
   by_cases c2 : a + 1 ≤ (l.length : Int)
   · omega
   · simp only [if_neg c2]
     refine ⟨_, _, rfl, ?_⟩
     have := and255 (IntKind.u64.wrap (IntKind.u64.wrap (s * 6364136223846793005) + 0) + 1442695040888963407)
     rw [w64 (by omega) (by omega)]
     exact this
theorem pick_ev (l : List Int) (hl : Bytes l) (a s n : Int) (h0 : 0 ≤ a) (h1 : a ≤ 900000000) : ∃ x a' s', spec_l1Cur_pick.f l a s n = some (x, a', s') ∧ 0 ≤ x ∧ (x = 0 ∨ x < n) ∧ a ≤ a' ∧ a' ≤ a + 2 := by
 unfold spec_l1Cur_pick.f
 by_cases c : n ≤ 1
 · simp only [if_pos c]
   exact ⟨_, _, _, rfl, by omega, by omega, by omega, by omega⟩
 · simp only [if_neg c]
   obtain ⟨x, s1, e1, b1, b2⟩ := next_ev l hl a s h0 (by omega)
   simp only [e1, zbd]
   by_cases c2 : n > 200
   · simp only [if_pos c2]
     obtain ⟨y, s2, e2, b3, b4⟩ := next_ev l hl (a + 1) s1 (by omega) (by omega)
     simp only [e2, zbd, if_neg (show ¬ n = 0 by omega)]
     have t := tmod_bd (x * 256 + y) n (by omega) (by omega)
     refine ⟨_, _, _, rfl, ?_⟩
     rw [w64 (x := x * 256) (by omega) (by omega), w64 (x := x * 256 + y) (by omega) (by omega)]
     omega
   · simp only [if_neg c2, if_neg (show ¬ n = 0 by omega)]
     have t := tmod_bd x n (by omega) (by omega)
     exact ⟨_, _, _, rfl, by omega, by omega, by omega, by omega⟩
theorem one_ev (l : List Int) (hl : Bytes l) (a s n : Int) (h0 : 0 ≤ a) (h1 : a ≤ 900000000) : ∃ x a' s', spec_l1Cur_one.f l a s n = some (x, a', s') ∧ a ≤ a' ∧ a' ≤ a + 2 := by
 unfold spec_l1Cur_one.f
 obtain ⟨x, a', s', e, _, _, b1, b2⟩ := pick_ev l hl a s n h0 h1
 simp only [e, zbd]
 exact ⟨_, _, _, rfl, b1, b2⟩
theorem among_ev (l : List Int) (hl : Bytes l) (a s : Int) (L : List Int) (hL : 0 < L.length) (h0 : 0 ≤ a) (h1 : a ≤ 900000000) : ∃ x a' s', spec_l1Cur_among.f l a s L = some (x, a', s') ∧ x ∈ L ∧ a ≤ a' ∧ a' ≤ a + 2 := by
 unfold spec_l1Cur_among.f
 obtain ⟨x, a', s', e, b0, b, b1, b2⟩ := pick_ev l hl a s (L.length : Int) h0 h1
 simp only [e, zbd, if_pos b0, if_pos (show x < (L.length : Int) by omega)]
 exact ⟨_, _, _, rfl, rd_mem b0 (by omega), b1, b2⟩
structure Bd (n m : Int) (l : List Int) : Prop where
 len : (l.length : Int) ≤ n
 low : ∀ x ∈ l, -1 ≤ x
 high : ∀ x ∈ l, x ≤ m
theorem Bd.le {n m n' m' : Int} {l : List Int} (h : Bd n m l) (h1 : n ≤ n') (h2 : m ≤ m') : Bd n' m' l := ⟨by have := h.len; omega, h.low, fun x hx => by have := h.high x hx; omega⟩
theorem Bd.snoc {n m : Int} {l : List Int} (h : Bd n m l) {x : Int} (h1 : -1 ≤ x) (h2 : x ≤ m) : Bd (n + 1) m (l ++ [x]) := by
 refine ⟨by have := h.len; rw [List.length_append]; simp; omega, fun y hy => ?_, fun y hy => ?_⟩
 · rcases List.mem_append.1 hy with hy | hy
   · exact h.low y hy
   · have : y = x := by simpa using hy
     omega
 · rcases List.mem_append.1 hy with hy | hy
   · exact h.high y hy
   · have : y = x := by simpa using hy
     omega
theorem Bd.nil (n m : Int) (h : 0 ≤ n) : Bd n m [] := ⟨taaz, fun x hx => by simp at hx, fun x hx => by simp at hx⟩
theorem list_l (l : List Int) (hl : Bytes l) (m : Int) (hm : 0 ≤ m) (hm2 : m ≤ 1000) : ∀ (d : Nat) (acc : List Int) (a s : Int), (d : Int) ≤ 10 → acc.length ≤ 10 → 0 ≤ a → a ≤ 800000000 + 10 * (10 - (d : Int)) → Bd (10 - (d : Int)) m acc → ∃ r a' s', Ev (fun k => spec_l1Cur_list.l0 k m acc (d : Int) l a s) (r, a', s') ∧ Bd 10 m r ∧ a ≤ a' ∧ a' ≤ a + 2 * (d : Int)
 | 0, acc, a, s, hd, hc, h0, h1, hb => by
  refine ⟨acc, a, s, Ev.succ ?_, hb.le (by omega) (by omega), by omega, by omega⟩
  simp only [spec_l1Cur_list.l0, if_neg (show ¬ ((0 : Nat) : Int) > 0 by omega)]
  exact Ev.now _
 | d + 1, acc, a, s, hd, hc, h0, h1, hb => by
  obtain ⟨x, a1, s1, e, b0, b, b1, b2⟩ := pick_ev l hl a s (m + 1) h0 (by omega)
  have hl1 := hb.len
  obtain ⟨r, a', s', h, hr, q1, q2⟩ := list_l l hl m hm hm2 d (acc ++ [x]) a1 s1 (by omega) (taci) (by omega) (by omega) ((hb.snoc (by omega) (by omega)).le (by omega) (by omega))
  refine ⟨r, a', s', Ev.succ ?_, hr, by omega, by omega⟩
  simp only [spec_l1Cur_list.l0, if_pos (show ((d + 1 : Nat) : Int) > 0 by omega), w64 (x := m + 1) (by omega) (by omega), e, zbd, if_pos (show acc.length < 17592186044416 by omega), w64 (x := ((d + 1 : Nat) : Int) - 1) (by omega) (by omega)]
  rw [show ((d + 1 : Nat) : Int) - 1 = (d : Int) by omega]
  exact h
theorem list_ev (l : List Int) (hl : Bytes l) (m : Int) (hm : 0 ≤ m) (hm2 : m ≤ 1000) (a s : Int) (h0 : 0 ≤ a) (h1 : a ≤ 700000000) : ∃ r a' s', Ev (fun k => spec_l1Cur_list.f k l a s m) (r, a', s') ∧ Bd 10 m r ∧ a ≤ a' ∧ a' ≤ a + 100 := by
 obtain ⟨x, a1, s1, e, b0, b, b1, b2⟩ := pick_ev l hl a s 6 h0 (by omega)
 obtain ⟨d, hd⟩ := Int.eq_ofNat_of_zero_le (show 0 ≤ 1 + x by omega)
 have hd' : 1 + x = (d : Int) := hd
 obtain ⟨r, a', s', h, hr, q1, q2⟩ := list_l l hl m hm hm2 d [] a1 s1 (by omega) (taae) (by omega) (by omega) (Bd.nil _ _ (by omega))
 refine ⟨r, a', s', ?_, hr, by omega, by omega⟩
 unfold spec_l1Cur_list.f
 simp only [e, zbd, w64 (x := 1 + x) (by omega) (by omega)]
 rw [hd']
 exact h
theorem any_l (l : List Int) (hl : Bytes l) (m : Int) (hm : 9 ≤ m) (hm2 : m ≤ 1000) : ∀ (d : Nat) (acc : List Int) (a s : Int), d ≤ 12 → acc.length + d = 12 → 0 ≤ a → a ≤ 800000000 + 10 * (acc.length : Int) → Bd 12 m acc → ∃ r a' s', Ev (fun k => spec_l1Cur_anyList.l0 k acc l a s) (r, a', s') ∧ Bd 12 m r ∧ a ≤ a' ∧ a' ≤ a + 2 + 4 * (d : Int)
 | 0, acc, a, s, hd, hc, h0, h1, hb => by
  obtain ⟨x, a1, s1, e, b0, b, b1, b2⟩ := pick_ev l hl a s 2 h0 (by omega)
  refine ⟨acc, a1, s1, Ev.succ ?_, hb, by omega, by omega⟩
  simp only [spec_l1Cur_anyList.l0, e, zbd, w64 (x := 8 + x) (by omega) (by omega), if_neg (show ¬ (acc.length : Int) < 8 + x by omega)]
  exact Ev.now _
 | d + 1, acc, a, s, hd, hc, h0, h1, hb => by
  obtain ⟨x, a1, s1, e, b0, b, b1, b2⟩ := pick_ev l hl a s 2 h0 (by omega)
  by_cases c : (acc.length : Int) < 8 + x
  · obtain ⟨y, a2, s2, e2, c0, c3, c1, c2⟩ := pick_ev l hl a1 s1 9 (by omega) (by omega)
    have hbb : Bd 12 m (acc ++ [y]) := by
     refine ⟨taci, fun z hz => ?_, fun z hz => ?_⟩
     · rcases List.mem_append.1 hz with hz | hz
       · exact hb.low z hz
       · have : z = y := by simpa using hz
         omega
     · rcases List.mem_append.1 hz with hz | hz
       · exact hb.high z hz
       · have : z = y := by simpa using hz
         omega
    obtain ⟨r, a', s', h, hr, q1, q2⟩ := any_l l hl m hm hm2 d (acc ++ [y]) a2 s2 (by omega) (taci) (by omega) (taci) hbb
    refine ⟨r, a', s', Ev.succ ?_, hr, by omega, by omega⟩
    simp only [spec_l1Cur_anyList.l0, e, zbd, w64 (x := 8 + x) (by omega) (by omega), if_pos c, e2, if_pos (show acc.length < 17592186044416 by omega)]
    exact h
  · refine ⟨acc, a1, s1, Ev.succ ?_, hb, by omega, by omega⟩
    simp only [spec_l1Cur_anyList.l0, e, zbd, w64 (x := 8 + x) (by omega) (by omega), if_neg c]
    exact Ev.now _
theorem anyList_ev (l : List Int) (hl : Bytes l) (m : Int) (hm : 0 ≤ m) (hm2 : m ≤ 1000) (a s : Int) (h0 : 0 ≤ a) (h1 : a ≤ 600000000) : ∃ r a' s', Ev (fun k => spec_l1Cur_anyList.f k l a s m) (r, a', s') ∧ Bd 12 (max m 61) r ∧ a ≤ a' ∧ a' ≤ a + 200 := by
 obtain ⟨L, a1, s1, e1, hL, b1, b2⟩ := list_ev l hl m hm hm2 a s h0 (by omega)
 obtain ⟨x, a2, s2, e2, c0, c3, c1, c2⟩ := pick_ev l hl a1 s1 14 (by omega) (by omega)
 have hlen := hL.len
 have hL' : Bd 12 (max m 61) L := hL.le (by omega) (by omega)
 by_cases t0 : x = 0
 · obtain ⟨y, a3, s3, e3, hy, d1, d2⟩ := among_ev l hl a2 s2 [-1, 0, 60, 61] (taae) (by omega) (by omega)
   have hy' : -1 ≤ y ∧ y ≤ 61 := by
    simp at hy
    omega
   refine ⟨L ++ [y], a3, s3, ?_, (Bd.snoc (hL.le (n' := 10) (m' := max m 61) (by omega) (by omega)) hy'.1 (by omega)).le (by omega) (by omega), by omega, by omega⟩
   unfold spec_l1Cur_anyList.f
   refine Ev.bind e1 ?_
   simp only [e2, zbd, if_pos t0, e3, if_pos (show L.length < 17592186044416 by omega)]
   exact Ev.now _
 · by_cases t1 : x = 1
   · obtain ⟨r, a3, s3, e3, hr, d1, d2⟩ := any_l l hl (max m 61) (by omega) (by omega) (12 - L.length) L a2 s2 (by omega) (by omega) (by omega) (by omega) hL'
     refine ⟨r, a3, s3, ?_, hr, by omega, by omega⟩
     unfold spec_l1Cur_anyList.f
     refine Ev.bind e1 ?_
     simp only [e2, zbd, if_neg t0, if_pos t1]
     exact e3
   · by_cases t2 : x = 2
     · refine ⟨[], a2, s2, ?_, Bd.nil _ _ (by omega), by omega, by omega⟩
       unfold spec_l1Cur_anyList.f
       refine Ev.bind e1 ?_
       simp only [e2, zbd, if_neg t0, if_neg t1, if_pos t2]
       exact Ev.now _
     · refine ⟨L, a2, s2, ?_, hL', by omega, by omega⟩
       unfold spec_l1Cur_anyList.f
       refine Ev.bind e1 ?_
       simp only [e2, zbd, if_neg t0, if_neg t1, if_neg t2]
       exact Ev.now _



theorem Bd.set {n m : Int} {l : List Int} (h : Bd n m l) (i : Nat) {x : Int} (h1 : -1 ≤ x) (h2 : x ≤ m) : Bd n m (l.set i x) := by
 refine ⟨by rw [List.length_set]; exact h.len, fun y hy => ?_, fun y hy => ?_⟩
 · rcases List.mem_or_eq_of_mem_set hy with hy | rfl
   · exact h.low y hy
   · exact h1
 · rcases List.mem_or_eq_of_mem_set hy with hy | rfl
   · exact h.high y hy
   · exact h2
theorem fit_end (l : List Int) (hl : Bytes l) (b acc : List Int) (n : Int) (hb : Bd 12 100 b) (hx : Bd 12 100 acc) (a s : Int) (h0 : 0 ≤ a) (h1 : a ≤ 800000000) : ∃ x y a' s', Ev (fun k => spec_l1Cur_fitting.j1 k b acc n false l a s) (x, y, a', s') ∧ Bd 12 100 x ∧ Bd 12 100 y ∧ a ≤ a' ∧ a' ≤ a + 10 := by
 obtain ⟨t, a1, s1, e, b1, b2⟩ := one_ev l hl a s 5 h0 (by omega)
 cases t with
 | true =>
  refine ⟨b, acc, a1, s1, Ev.succ ?_, hb, hx, by omega, by omega⟩
  simp only [spec_l1Cur_fitting.j1, zbo, if_false, e, zbd, if_true]
  exact Ev.now _
 | false =>
  refine ⟨acc, b, a1, s1, Ev.succ ?_, hx, hb, by omega, by omega⟩
  simp only [spec_l1Cur_fitting.j1, zbo, if_false, e, zbd]
  exact Ev.now _
theorem fit_l (l : List Int) (hl : Bytes l) (b : List Int) (hb : Bd 12 100 b) : ∀ (d : Nat) (acc : List Int) (a s : Int), (d : Int) ≤ 12 → 0 ≤ a → a ≤ 700000000 - 100 * (d : Int) → Bd 12 (80 - (d : Int)) acc → ∃ x y a' s', Ev (fun k => spec_l1Cur_fitting.l0 k b acc (d : Int) l a s) (x, y, a', s') ∧ Bd 12 100 x ∧ Bd 12 100 y ∧ a ≤ a' ∧ a' ≤ a + 10 + 30 * (d : Int) := by
 intro d
 induction d with
 | zero =>
  intro acc a s hd h0 h1 hacc
  obtain ⟨x, y, a', s', e, q1, q2, q3, q4⟩ := fit_end l hl b acc ((0 : Nat) : Int) hb (hacc.le (by omega) (by omega)) a s h0 (by omega)
  refine ⟨x, y, a', s', Ev.succ ?_, q1, q2, q3, by omega⟩
  simp only [spec_l1Cur_fitting.l0, if_neg (show ¬ ((0 : Nat) : Int) > 0 by omega)]
  exact e
 | succ d ih =>
  intro acc a s hd h0 h1 hacc
  have hlen := hacc.len
  have hbig : Bd 12 100 acc := hacc.le (by omega) (by omega)
  by_cases c : (acc.length : Int) > 1
  · obtain ⟨i, a1, s1, e1, p0, p, p1, p2⟩ := pick_ev l hl a s (acc.length : Int) h0 (by omega)
    obtain ⟨j, a2, s2, e2, r0, r, r1, r2⟩ := pick_ev l hl a1 s1 (acc.length : Int) (by omega) (by omega)
    have hi : i < (acc.length : Int) := by omega
    have hj : j < (acc.length : Int) := by omega
    have b1 := hacc.high _ (rd_mem p0 hi)
    have b2 := hacc.low _ (rd_mem p0 hi)
    have keep : ∀ (a3 s3 : Int), a2 ≤ a3 → a3 ≤ a2 + 2 → ∃ x y a' s', Ev (fun k => spec_l1Cur_fitting.l0 k b acc (wrap64 (((d + 1 : Nat) : Int) - 1)) l a3 s3) (x, y, a', s') ∧ Bd 12 100 x ∧ Bd 12 100 y ∧ a3 ≤ a' ∧ a' ≤ a3 + 10 + 30 * (d : Int) := fun a3 s3 g1 g2 => by
     rw [w64 (by omega) (by omega), show ((d + 1 : Nat) : Int) - 1 = (d : Int) by omega]
     exact ih acc a3 s3 (by omega) (by omega) (by omega) (hacc.le (by omega) (by omega))
    have move : rd acc i > 0 → ∀ (a3 s3 : Int), a2 ≤ a3 → a3 ≤ a2 + 2 → ∃ x y a' s', Ev (fun k => spec_l1Cur_fitting.l0 k b ((acc.set i.toNat (wrap64 (rd acc i - 1))).set j.toNat (wrap64 (rd (acc.set i.toNat (wrap64 (rd acc i - 1))) j + 1))) (wrap64 (((d + 1 : Nat) : Int) - 1)) l a3 s3) (x, y, a', s') ∧ Bd 12 100 x ∧ Bd 12 100 y ∧ a3 ≤ a' ∧ a' ≤ a3 + 10 + 30 * (d : Int) := fun hp a3 s3 g1 g2 => by
     rw [w64 (x := ((d + 1 : Nat) : Int) - 1) (by omega) (by omega), show ((d + 1 : Nat) : Int) - 1 = (d : Int) by omega, w64 (x := rd acc i - 1) (by omega) (by omega)]
     have h1 : Bd 12 (80 - ((d + 1 : Nat) : Int)) (acc.set i.toNat (rd acc i - 1)) := hacc.set _ (by omega) (by omega)
     have c1 := h1.high _ (rd_mem (l := acc.set i.toNat (rd acc i - 1)) r0 (by rw [List.length_set]; exact hj))
     have c2 := h1.low _ (rd_mem (l := acc.set i.toNat (rd acc i - 1)) r0 (by rw [List.length_set]; exact hj))
     rw [w64 (x := rd (acc.set i.toNat (rd acc i - 1)) j + 1) (by omega) (by omega)]
     exact ih _ a3 s3 (by omega) (by omega) (by omega) ((h1.le (n' := 12) (m' := 80 - (d : Int)) (by omega) (by omega)).set _ (by omega) (by omega))
    have body : ∃ x y a' s', Ev (fun k => spec_l1Cur_fitting.j1 k b acc ((d + 1 : Nat) : Int) true l a s) (x, y, a', s') ∧ Bd 12 100 x ∧ Bd 12 100 y ∧ a ≤ a' ∧ a' ≤ a + 20 + 30 * (d : Int) := by
     by_cases t1 : rd acc i > 0
     · by_cases t2 : rd acc i > rd acc j
       · obtain ⟨x, y, a', s', h, q1, q2, q3, q4⟩ := move t1 a2 s2 (by omega) (by omega)
         refine ⟨x, y, a', s', Ev.succ ?_, q1, q2, by omega, by omega⟩
         simp only [spec_l1Cur_fitting.j1, if_true, e1, e2, zbd, if_pos p0, if_pos hi, if_pos t1, if_pos r0, if_pos hj, if_pos t2]
         exact h
       · obtain ⟨t, a3, s3, e3, f1, f2⟩ := one_ev l hl a2 s2 4 (by omega) (by omega)
         cases t with
         | true =>
          obtain ⟨x, y, a', s', h, q1, q2, q3, q4⟩ := move t1 a3 s3 (by omega) (by omega)
          refine ⟨x, y, a', s', Ev.succ ?_, q1, q2, by omega, by omega⟩
          simp only [spec_l1Cur_fitting.j1, if_true, e1, e2, e3, zbd, if_pos p0, if_pos hi, if_pos t1, if_pos r0, if_pos hj, if_neg t2]
          exact h
         | false =>
          obtain ⟨x, y, a', s', h, q1, q2, q3, q4⟩ := keep a3 s3 (by omega) (by omega)
          refine ⟨x, y, a', s', Ev.succ ?_, q1, q2, by omega, by omega⟩
          simp only [spec_l1Cur_fitting.j1, if_true, e1, e2, e3, zbd, if_pos p0, if_pos hi, if_pos t1, if_pos r0, if_pos hj, if_neg t2, zbo, if_false]
          exact h
     · obtain ⟨x, y, a', s', h, q1, q2, q3, q4⟩ := keep a2 s2 (by omega) (by omega)
       refine ⟨x, y, a', s', Ev.succ ?_, q1, q2, by omega, by omega⟩
       simp only [spec_l1Cur_fitting.j1, if_true, e1, e2, zbd, if_pos p0, if_pos hi, if_neg t1]
       exact h
    obtain ⟨x, y, a', s', h, q1, q2, q3, q4⟩ := body
    refine ⟨x, y, a', s', Ev.succ ?_, q1, q2, by omega, by omega⟩
    simp only [spec_l1Cur_fitting.l0, if_pos (show ((d + 1 : Nat) : Int) > 0 by omega), zba c]
    exact h
  · obtain ⟨x, y, a', s', e, q1, q2, q3, q4⟩ := fit_end l hl b acc ((d + 1 : Nat) : Int) hb hbig a s h0 (by omega)
    refine ⟨x, y, a', s', Ev.succ ?_, q1, q2, q3, by omega⟩
    simp only [spec_l1Cur_fitting.l0, if_pos (show ((d + 1 : Nat) : Int) > 0 by omega), zbj c]
    exact e
theorem fitting_ev (l : List Int) (hl : Bytes l) (m : Int) (hm : 0 ≤ m) (hm2 : m ≤ 61) (a s : Int) (h0 : 0 ≤ a) (h1 : a ≤ 500000000) : ∃ x y a' s', Ev (fun k => spec_l1Cur_fitting.f k l a s m) (x, y, a', s') ∧ Bd 12 100 x ∧ Bd 12 100 y ∧ a ≤ a' ∧ a' ≤ a + 1000 := by
 obtain ⟨b, a1, s1, e1, hb, b1, b2⟩ := anyList_ev l hl m hm (by omega) a s h0 (by omega)
 obtain ⟨t, a2, s2, e2, c1, c2⟩ := one_ev l hl a1 s1 5 (by omega) (by omega)
 have hb' : Bd 12 100 b := hb.le (by omega) (by omega)
 cases t with
 | true =>
  obtain ⟨q, a3, s3, e3, hq, d1, d2⟩ := anyList_ev l hl m hm (by omega) a2 s2 (by omega) (by omega)
  refine ⟨q, b, a3, s3, ?_, hq.le (by omega) (by omega), hb', by omega, by omega⟩
  unfold spec_l1Cur_fitting.f
  refine Ev.bind e1 ?_
  simp only [e2, zbd, if_true]
  exact Ev.bind e3 (Ev.now _)
 | false =>
  obtain ⟨n, a3, s3, e3, n0, n1, d1, d2⟩ := pick_ev l hl a2 s2 12 (by omega) (by omega)
  obtain ⟨d, hd⟩ := Int.eq_ofNat_of_zero_le n0
  have hd' : n = (d : Int) := hd
  have hlen := hb.len
  obtain ⟨x, y, a', s', h, q1, q2, q3, q4⟩ := fit_l l hl b hb' d b a3 s3 (by omega) (by omega) (by omega) (hb.le (by omega) (by omega))
  refine ⟨x, y, a', s', ?_, q1, q2, by omega, by omega⟩
  unfold spec_l1Cur_fitting.f
  refine Ev.bind e1 ?_
  simp only [e2, zbd, zbo, if_false, l1Own_eq b (by omega), e3]
  rw [hd']
  exact h




def unitL (p q : List Int) : Int := (List.zipWith (fun x y => max 0 (x - y)) p q).sum
theorem unitL_drop {p q : List Int} {i : Nat} (hi : i < p.length) (hj : i < q.length) : unitL (p.drop i) (q.drop i) = max 0 (p[i] - q[i]) + unitL (p.drop (i + 1)) (q.drop (i + 1)) := by
 unfold unitL
 rw [List.drop_eq_getElem_cons hi, List.drop_eq_getElem_cons hj, List.zipWith_cons_cons, List.sum_cons]
theorem unitL_end {p q : List Int} {i : Nat} (hi : p.length ≤ i) : unitL (p.drop i) (q.drop i) = 0 := by
 unfold unitL
 rw [List.drop_eq_nil_of_le hi]
 rfl
def betB (a b : List Int) : Bool := if goodL a = true then (if goodL b = true then majB a b else false) else false
theorem isBetween_ev (a b : List Int) (ha : a.length ≤ 1048576) (hb : b.length ≤ 1048576) : Ev (fun k => impl_isBetween.f k a b) (betB a b) := by
 unfold impl_isBetween.f betB
 refine Ev.bind (areLists_ev a b ha hb) ?_
 by_cases ga : goodL a = true
 · by_cases gb : goodL b = true
   · simp only [ga, gb, if_true]
     exact Ev.bind (isMajorized_ev a b (good_sm ga) (good_sm gb)) (Ev.now _)
   · simp only [ga, if_true, if_neg gb]
     exact Ev.now _
 · simp only [if_neg ga, zbo, if_false]
   exact Ev.now _
theorem giLists_ev (a b : List Int) (ha : a.length ≤ 1048576) (hb : b.length ≤ 1048576) : Ev (fun k => spec_giLists.f k a b) (betB a b) := by
 unfold spec_giLists.f betB
 refine Ev.bind (liGood_ev a (by omega)) (Ev.ite (fun ga => ?_) (fun _ => Ev.now _))
 refine Ev.bind (liGood_ev b (by omega)) (Ev.ite (fun gb => ?_) (fun _ => Ev.now _))
 exact Ev.bind (liBelow_ev a b (good_sm ga) (good_sm gb)) (Ev.now _)
theorem betB_iff (a b : List Int) : betB a b = true ↔ goodL a = true ∧ goodL b = true ∧ majB a b = true := by
 unfold betB
 split
 · split <;> simp_all
 · simp_all

theorem mx_eq (a b : Int) : mx a b = max a b := by unfold mx; omega
theorem mn_eq (a b : Int) : mn a b = min a b := by unfold mn; omega
theorem unitL_take {p q : List Int} {m : Nat} (h1 : m < p.length) (h2 : m < q.length) : unitL (p.take (m + 1)) (q.take (m + 1)) = unitL (p.take m) (q.take m) + max 0 (rd p (m : Int) - rd q (m : Int)) := by
 unfold unitL
 rw [← List.take_zipWith, ← List.take_zipWith, List.take_succ_eq_append_getElem (by rw [List.length_zipWith]; omega), List.sum_append, List.getElem_zipWith, rdn h1, rdn h2, List.sum_cons, List.sum_nil, Int.add_zero]
theorem sum_nn : ∀ l : List Int, (∀ x ∈ l, 0 ≤ x) → 0 ≤ l.sum
 | [], _ => by simp
 | x :: l, h => by
  rw [List.sum_cons]
  have := sum_nn l (fun y hy => h y (List.mem_cons_of_mem _ hy))
  have := h x List.mem_cons_self
  omega
theorem unitL_nn (p q : List Int) : 0 ≤ unitL p q := by
 unfold unitL
 refine sum_nn _ ?_
 intro x hx
 obtain ⟨i, hi, rfl⟩ := List.mem_iff_getElem.1 hx
 rw [List.getElem_zipWith]
 omega
structure Gv (x t : List Int) (i j : Nat) (a : Int) : Prop extends Nx x t i j where
 pos : 1 ≤ a
 ai : a ≤ rd x (i : Int) - rd t (i : Int)
 aj : a ≤ rd t (j : Int) - rd x (j : Int)
theorem gv_pre {x t : List Int} {i j : Nat} {a : Int} (hl : x.length = t.length) (g : Gv x t i j a) (hp : ∀ m, pre t m ≤ pre x m) : ∀ m : Nat, i < m → m ≤ j → pre t m + a ≤ pre x m
 | 0, h, _ => by omega
 | m + 1, h, h2 => by
  have := g.hj
  rw [pre_succ (by omega), pre_succ (by omega)]
  rcases Nat.lt_or_ge i m with hlt | hge
  · have := gv_pre hl g hp m hlt (by omega)
    have := g.bef m (by omega)
    omega
  · have : m = i := by omega
    subst this; have := hp m
    have := g.ai
    omega
theorem gv_dom {x t : List Int} {i j : Nat} {a : Int} (hd : Dom x t) (g : Gv x t i j a) : Dom (giveL x (i : Int) (j : Int) a) t := by
 obtain ⟨hl, hs, hp⟩ := hd
 have h1 := g.lt
 have h2 := g.hj
 refine ⟨by rw [giveL_length]; exact hl, by rw [giveL_sum x i j a (by omega) h2 (by omega)]; exact hs, fun m => ?_⟩
 rcases Nat.lt_or_ge x.length m with hm | hm
 · rw [pre_all (by omega), pre_all (tacb), giveL_sum x i j a (by omega) h2 (by omega)]
   omega
 · rw [giveL_pre x i j a (by omega) h2 (by omega) m hm]
   have := hp m
   by_cases c1 : i < m
   · by_cases c2 : j < m
     · rw [if_pos c1, if_pos c2]; omega
     · rw [if_pos c1, if_neg c2]
       have := gv_pre hl g hp m c1 (by omega)
       omega
   · rw [if_neg c1, if_neg (by omega)]; omega
theorem gv_desc {x t : List Int} {i j : Nat} {a : Int} (hl : x.length = t.length) (hx : Desc x) (ht : Desc t) (g : Gv x t i j a) : Desc (giveL x (i : Int) (j : Int) a) := by
 have h1 := g.lt
 have h2 := g.hj
 have h3 := g.ai
 have h4 := g.aj
 refine desc_of_rd fun k hk => ?_
 rw [giveL_length] at hk
 rw [giveL_rd x i j a (by omega) h2 (by omega), giveL_rd x i j a (by omega) h2 (by omega)]
 have dx := desc_rd hx (a := k) (b := k + 1) (by omega) hk
 have dt := desc_rd ht (a := k) (b := k + 1) (by omega) (by omega)
 have hpos := g.pos
 by_cases c1 : k + 1 = j
 · rw [if_pos c1]
   by_cases c2 : k = i
   · rw [if_neg (by omega), if_pos c2]
     rw [c1, c2] at dt
     omega
   · rw [if_neg (by omega), if_neg c2]
     have := g.bef k (by omega)
     rw [c1] at dt
     omega
 · rw [if_neg c1]
   by_cases c2 : k + 1 = i
   · rw [if_pos c2, if_neg (by omega), if_neg (by omega)]
     rw [c2] at dx
     omega
   · rw [if_neg c2]
     by_cases c3 : k = j
     · rw [if_pos c3]
       rw [c3] at dx
       rw [c3]
       omega
     · rw [if_neg c3]
       by_cases c4 : k = i
       · rw [if_pos c4]
         have hb := g.btw (k + 1) (by omega) (by omega)
         rw [c4] at dt hb
         rw [c4]
         omega
       · rw [if_neg c4]
         exact dx
theorem gv_good {x t : List Int} {i j : Nat} {a : Int} (hl : x.length = t.length) (hx : goodL x = true) (ht : goodL t = true) (g : Gv x t i j a) : goodL (giveL x (i : Int) (j : Int) a) = true := by
 have h1 := g.lt
 have h2 := g.hj
 have h3 := g.ai
 have h4 := g.aj
 have hpos := g.pos
 have b1 := rd_good ht (i := (i : Int)) (by omega) (by omega)
 have b2 := rd_good ht (i := (j : Int)) (by omega) (by omega)
 have b3 := rd_good hx (i := (i : Int)) (by omega) (by omega)
 have b4 := rd_good hx (i := (j : Int)) (by omega) (by omega)
 exact (give_good x (i : Int) (j : Int) _ _ hx (by omega) (by omega) (by omega)).2 (by omega)
theorem gv_unit_m {x t : List Int} {i j : Nat} {a : Int} (hl : x.length = t.length) (g : Gv x t i j a) : ∀ m : Nat, m ≤ x.length → unitL ((giveL x (i : Int) (j : Int) a).take m) (t.take m) = unitL (x.take m) (t.take m) - (if i < m then a else 0)
 | 0, _ => by
  rw [if_neg (by omega)]
  simp [unitL]
 | m + 1, h => by
  have h1 := g.lt
  have h2 := g.hj
  have h3 := g.ai
  have h4 := g.aj
  have hpos := g.pos
  rw [unitL_take (tacb) (by omega), unitL_take (by omega) (by omega), gv_unit_m hl g m (by omega), giveL_rd x i j a (by omega) h2 (by omega) m]
  by_cases c1 : m = j
  · rw [if_pos c1, if_pos (show i < m by omega), if_pos (show i < m + 1 by omega)]
    rw [c1]
    omega
  · rw [if_neg c1]
    by_cases c2 : m = i
    · rw [if_pos c2, if_neg (show ¬ i < m by omega), if_pos (show i < m + 1 by omega)]
      rw [c2]
      omega
    · rw [if_neg c2]
      have e1 : i < m + 1 ↔ i < m := by omega
      simp only [e1]
      omega
theorem gv_unit {x t : List Int} {i j : Nat} {a : Int} (hl : x.length = t.length) (g : Gv x t i j a) : unitL (giveL x (i : Int) (j : Int) a) t = unitL x t - a := by
 have h := gv_unit_m hl g x.length (zch _)
 have h1 := g.lt
 have h2 := g.hj
 rw [List.take_of_length_le (tacb), List.take_of_length_le (by omega), List.take_of_length_le (by omega), if_pos (by omega)] at h
 exact h
def gvA (u : Bool) (x t : List Int) (i j : Nat) : Int := if u = true then 1 else min (rd x (i : Int) - rd t (i : Int)) (rd t (j : Int) - rd x (j : Int))
theorem nx_gv {x t : List Int} {i j : Nat} (u : Bool) (h : Nx x t i j) : Gv x t i j (gvA u x t i j) := by
 have h1 := h.igt
 have h2 := h.jlt
 unfold gvA
 refine ⟨h, ?_, ?_, ?_⟩
 all_goals (split <;> omega)
inductive GP (u : Bool) (t : List Int) : List Int → List (Nat × Nat × Int) → Prop
 | nil : GP u t t []
 | cons {x : List Int} {i j : Nat} {L : List (Nat × Nat × Int)} (hne : x ≠ t) (hn : Nx x t i j) (h : GP u t (giveL x (i : Int) (j : Int) (gvA u x t i j)) L) : GP u t x ((i, j, gvA u x t i j) :: L)
theorem gp_exists (u : Bool) {t : List Int} (ht : Desc t) (htg : goodL t = true) : ∀ (n : Nat) (x : List Int), Dom x t → Desc x → goodL x = true → unitL x t ≤ n → ∃ L, GP u t x L ∧ (L.length : Int) ≤ unitL x t
 | n, x, hd, hx, hg, hu => by
  by_cases hne : x = t
  · subst hne
    exact ⟨[], .nil, by simpa using unitL_nn x x⟩
  · obtain ⟨i, j, hn⟩ := nx_exists hd hne
    have g := nx_gv u hn
    have h1 := gv_unit hd.1 g
    have h2 := unitL_nn (giveL x (i : Int) (j : Int) (gvA u x t i j)) t
    have h3 := g.pos
    match n, hu with
    | 0, hu => omega
    | n + 1, hu =>
     obtain ⟨L, hL, hl⟩ := gp_exists u ht htg n (giveL x (i : Int) (j : Int) (gvA u x t i j)) (gv_dom hd g) (gv_desc hd.1 hx ht g) (gv_good hd.1 hg htg g) (by omega)
     exact ⟨_, .cons hne hn hL, by rw [List.length_cons]; omega⟩
theorem unitL_bd {x t : List Int} (hx : goodL x = true) (ht : goodL t = true) (hl : x.length = t.length) : unitL x t ≤ 480 := by
 have h := (goodL_iff x).1 hx
 have h' := (goodL_iff t).1 ht
 have key : ∀ m : Nat, m ≤ x.length → unitL (x.take m) (t.take m) ≤ 60 * m := by
  intro m
  induction m with
  | zero => intro _; simp [unitL]
  | succ m ih =>
   intro hm
   rw [unitL_take (by omega) (by omega)]
   have := ih (by omega)
   have b1 := rd_good hx (i := (m : Int)) (by omega) (by omega)
   have b2 := rd_good ht (i := (m : Int)) (by omega) (by omega)
   omega
 have := key x.length (zch _)
 rw [List.take_of_length_le (zch _), List.take_of_length_le (by omega)] at this
 omega
end Go.Proofs.Ytnlimjejllakoaa.A
