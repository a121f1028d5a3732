/- What the law FnMeetsAndJoins reaches, part 3: Lean functions with the same answers as the Go functions, the proofs that the Go code comes to these answers, and lemmas about them; no condition beyond those that each theorem names. -/
import Derived.Test.YtdkimdlbjeobiaaCFnMeetsAndJoinsw1
import Derived.Test.YtdkimdlbjeobiaaCFnMeetsAndJoins1
import Derived.Test.YtdkimdlbjeobiaaCFnMeetsAndJoins2
set_option linter.unusedVariables false
set_option linter.unusedSimpArgs false
set_option maxHeartbeats 8000000
set_option maxRecDepth 100000
namespace Go.Proofs.Ytdkimdlbjeobiaa.A
open Go.RowKit Go.Proofs.YtdkimdlbjeobiaaW.PrintWords Go.Proofs.YtdkimdlbjeobiaaW.PrintLast Go.Proofs.YtdkimdlbjeobiaaW.PrintMore
attribute [local go_sem] max2_int min2_int max_two min_two max_three min_three max_four min_four
mutual
def laws_FnMeetsAndJoins.j0 : Nat → List Int → List Int → List Int → Bool → List Int → Bool → Option (Bool)
 | 0, _, _, _, _, _, _ => none
 | k + 1, x5, x6, x7, x8, x11, x83 => if x83 = true then (some false) else (if x8 = true then ((impl_RankingOf.f k x5).bind fun bt592 => ((impl_MeetOf.f k x5 x7).bind fun bt596 => ((impl_JoinOf.f k x5 x11).bind fun bt600 => (if bt592.2 = true then (if bt596.2 = true then (if bt600.2 = true then ((laws_pBelow.f k x11 x5).bind fun t604 => (if t604 = true then ((laws_pBelow.f k x11 x6).bind fun t605 => (if t605 = true then ((laws_pBelow.f k x5 x7).bind fun t606 => (if t606 = true then ((laws_pBelow.f k x6 x7).bind fun t607 => (if t607 = true then ((laws_pSame.f k bt596.1 bt592.1).bind fun t608 => (if t608 = true then ((laws_pSame.f k bt600.1 bt592.1).bind fun t609 => (laws_FnMeetsAndJoins.j1 k x5 x6 x7 x11 (!t609))) else (laws_FnMeetsAndJoins.j1 k x5 x6 x7 x11 true))) else (laws_FnMeetsAndJoins.j1 k x5 x6 x7 x11 true))) else (laws_FnMeetsAndJoins.j1 k x5 x6 x7 x11 true))) else (laws_FnMeetsAndJoins.j1 k x5 x6 x7 x11 true))) else (laws_FnMeetsAndJoins.j1 k x5 x6 x7 x11 true))) else (laws_FnMeetsAndJoins.j1 k x5 x6 x7 x11 true)) else (laws_FnMeetsAndJoins.j1 k x5 x6 x7 x11 true)) else (laws_FnMeetsAndJoins.j1 k x5 x6 x7 x11 true))))) else (some true))
def laws_FnMeetsAndJoins.j1 : Nat → List Int → List Int → List Int → List Int → Bool → Option (Bool)
 | 0, _, _, _, _, _ => none
 | k + 1, x5, x6, x7, x11, x148 => if x148 = true then (some false) else ((impl_JoinOf.f k x6 x5).bind fun bt610 => (if bt610.2 = true then ((laws_pSame.f k bt610.1 x7).bind fun t614 => (laws_FnMeetsAndJoins.j2 k x5 x6 x7 x11 (!t614))) else (laws_FnMeetsAndJoins.j2 k x5 x6 x7 x11 true)))
def laws_FnMeetsAndJoins.j2 : Nat → List Int → List Int → List Int → List Int → Bool → Option (Bool)
 | 0, _, _, _, _, _ => none
 | k + 1, x5, x6, x7, x11, x162 => if x162 = true then (some false) else ((impl_BelowOf.f k x7).bind fun bt615 => (if bt615.2 = true then (if (bt615.1.length : Int) > 150 then (some true) else (laws_FnMeetsAndJoins.l0 k x5 x6 x7 x11 bt615.1 (bt615.1.length : Int) 0)) else ((laws_pSum.f k x5).bind fun t619 => (some (decide (t619 > 30))))))
def laws_FnMeetsAndJoins.l0 : Nat → List Int → List Int → List Int → List Int → List (List Int) → Int → Int → Option (Bool)
 | 0, _, _, _, _, _, _, _ => none
 | k + 1, x5, x6, x7, x11, x176, x177, x178 => if x178 < x177 then (if 0 ≤ x178 then (if x178 < (x176.length : Int) then ((laws_pBelow.f k (rd_L1 x176 x178) x5).bind fun t621 => (if t621 = true then ((laws_pBelow.f k (rd_L1 x176 x178) x6).bind fun t622 => (if t622 = true then ((laws_pBelow.f k (rd_L1 x176 x178) x11).bind fun t623 => (if t623 = true then ((laws_pBelow.f k x5 (rd_L1 x176 x178)).bind fun t624 => (if t624 = true then ((laws_pBelow.f k x6 (rd_L1 x176 x178)).bind fun t625 => (if t625 = true then ((laws_pSame.f k (rd_L1 x176 x178) x7).bind fun t626 => (if t626 = true then (laws_FnMeetsAndJoins.l0 k x5 x6 x7 x11 x176 x177 (wrap64 (x178 + 1))) else (some false))) else (laws_FnMeetsAndJoins.l0 k x5 x6 x7 x11 x176 x177 (wrap64 (x178 + 1))))) else (laws_FnMeetsAndJoins.l0 k x5 x6 x7 x11 x176 x177 (wrap64 (x178 + 1))))) else (some false))) else ((laws_pBelow.f k x5 (rd_L1 x176 x178)).bind fun t627 => (if t627 = true then ((laws_pBelow.f k x6 (rd_L1 x176 x178)).bind fun t628 => (if t628 = true then ((laws_pSame.f k (rd_L1 x176 x178) x7).bind fun t629 => (if t629 = true then (laws_FnMeetsAndJoins.l0 k x5 x6 x7 x11 x176 x177 (wrap64 (x178 + 1))) else (some false))) else (laws_FnMeetsAndJoins.l0 k x5 x6 x7 x11 x176 x177 (wrap64 (x178 + 1))))) else (laws_FnMeetsAndJoins.l0 k x5 x6 x7 x11 x176 x177 (wrap64 (x178 + 1))))))) else ((laws_pBelow.f k x5 (rd_L1 x176 x178)).bind fun t630 => (if t630 = true then ((laws_pBelow.f k x6 (rd_L1 x176 x178)).bind fun t631 => (if t631 = true then ((laws_pSame.f k (rd_L1 x176 x178) x7).bind fun t632 => (if t632 = true then (laws_FnMeetsAndJoins.l0 k x5 x6 x7 x11 x176 x177 (wrap64 (x178 + 1))) else (some false))) else (laws_FnMeetsAndJoins.l0 k x5 x6 x7 x11 x176 x177 (wrap64 (x178 + 1))))) else (laws_FnMeetsAndJoins.l0 k x5 x6 x7 x11 x176 x177 (wrap64 (x178 + 1))))))) else (none)) else (none)) else (some true)
end
def laws_FnMeetsAndJoins.f (k : Nat) (l0 : List Int) (l1 : List Int) : Option (Bool) := (laws_big.f l0 l1).bind fun t567 => (if t567 = true then (some true) else ((spec_DrawJoinOf.f k l0).bind fun bt568 => ((impl_JoinOf.f k bt568.1 bt568.2).bind fun bt574 => ((spec_JoinOf.f k bt568.1 bt568.2).bind fun bt578 => ((impl_MeetOf.f k bt568.1 bt568.2).bind fun bt582 => ((spec_MeetOf.f k bt568.1 bt568.2).bind fun bt586 => (if (bt574.2 != bt578.2) = true then (laws_FnMeetsAndJoins.j0 k bt568.1 bt568.2 bt574.1 bt574.2 bt582.1 true) else ((laws_pSame.f k bt574.1 bt578.1).bind fun t590 => (if t590 = true then (if (bt582.2 != bt586.2) = true then (laws_FnMeetsAndJoins.j0 k bt568.1 bt568.2 bt574.1 bt574.2 bt582.1 true) else ((laws_pSame.f k bt582.1 bt586.1).bind fun t591 => (if t591 = true then (laws_FnMeetsAndJoins.j0 k bt568.1 bt568.2 bt574.1 bt574.2 bt582.1 (bt582.2 != bt574.2)) else (laws_FnMeetsAndJoins.j0 k bt568.1 bt568.2 bt574.1 bt574.2 bt582.1 true)))) else (laws_FnMeetsAndJoins.j0 k bt568.1 bt568.2 bt574.1 bt574.2 bt582.1 true))))))))))
theorem laws_FnMeetsAndJoins.calls (k : Nat) (A0 : Option Addr) (c0 : Nat) (l0 : List Int) (A1 : Option Addr) (c1 : Nat) (l1 : List Int) (r : Bool) (w : World) (hr0 : Kd.C (Kd.int .u8) w A0 l0.length l0) (hc0 : l0.length ≤ c0) (hr1 : Kd.C (Kd.int .u8) w A1 l1.length l1) (hc1 : l1.length ≤ c1) (h : laws_FnMeetsAndJoins.f k l0 l1 = some r) :
 Calls Try.prog 4 #[.slice A0 l0.length c0, .slice A1 l1.length c1] w fun e w' => e = .returned (.bool r) ∧ Below w.heap.size w w' := by
 have HR0 := zad hr0; have HC0 := zad hc0; clear hr0 hc0; have HR1 := zad hr1; have HC1 := zad hc1; clear hr1 hc1; have HB := zad (Below.refl w.heap.size w)
 have H : ((laws_big.f l0 l1).bind fun t567 => (if t567 = true then (some true) else ((spec_DrawJoinOf.f k l0).bind fun bt568 => ((impl_JoinOf.f k bt568.1 bt568.2).bind fun bt574 => ((spec_JoinOf.f k bt568.1 bt568.2).bind fun bt578 => ((impl_MeetOf.f k bt568.1 bt568.2).bind fun bt582 => ((spec_MeetOf.f k bt568.1 bt568.2).bind fun bt586 => (if (bt574.2 != bt578.2) = true then (laws_FnMeetsAndJoins.j0 k bt568.1 bt568.2 bt574.1 bt574.2 bt582.1 true) else ((laws_pSame.f k bt574.1 bt578.1).bind fun t590 => (if t590 = true then (if (bt582.2 != bt586.2) = true then (laws_FnMeetsAndJoins.j0 k bt568.1 bt568.2 bt574.1 bt574.2 bt582.1 true) else ((laws_pSame.f k bt582.1 bt586.1).bind fun t591 => (if t591 = true then (laws_FnMeetsAndJoins.j0 k bt568.1 bt568.2 bt574.1 bt574.2 bt582.1 (bt582.2 != bt574.2)) else (laws_FnMeetsAndJoins.j0 k bt568.1 bt568.2 bt574.1 bt574.2 bt582.1 true)))) else (laws_FnMeetsAndJoins.j0 k bt568.1 bt568.2 bt574.1 bt574.2 bt582.1 true))))))))))) = some r := h
 clear h; replace H := zay.mp H; obtain ⟨t567, A30, H⟩ := H
 replace H : (if t567 = true then (some true) else ((spec_DrawJoinOf.f k l0).bind fun bt568 => ((impl_JoinOf.f k bt568.1 bt568.2).bind fun bt574 => ((spec_JoinOf.f k bt568.1 bt568.2).bind fun bt578 => ((impl_MeetOf.f k bt568.1 bt568.2).bind fun bt582 => ((spec_MeetOf.f k bt568.1 bt568.2).bind fun bt586 => (if (bt574.2 != bt578.2) = true then (laws_FnMeetsAndJoins.j0 k bt568.1 bt568.2 bt574.1 bt574.2 bt582.1 true) else ((laws_pSame.f k bt574.1 bt578.1).bind fun t590 => (if t590 = true then (if (bt582.2 != bt586.2) = true then (laws_FnMeetsAndJoins.j0 k bt568.1 bt568.2 bt574.1 bt574.2 bt582.1 true) else ((laws_pSame.f k bt582.1 bt586.1).bind fun t591 => (if t591 = true then (laws_FnMeetsAndJoins.j0 k bt568.1 bt568.2 bt574.1 bt574.2 bt582.1 (bt582.2 != bt574.2)) else (laws_FnMeetsAndJoins.j0 k bt568.1 bt568.2 bt574.1 bt574.2 bt582.1 true)))) else (laws_FnMeetsAndJoins.j0 k bt568.1 bt568.2 bt574.1 bt574.2 bt582.1 true)))))))))) = some r := H
 have A3 := zad A30; clear A30; by_cases c4 : t567 = true
 · subst c4
   have H1 : (some true) = some r := by rw [if_pos rfl] at H; exact H
   clear H; have H := H1; clear H1; obtain rfl := zbc H
   go_enter Try.func4, Try.ntmps4
   go_wp2_with (first | ((with_reducible refine zbf (f := 14) rfl ?_); refine zbl (some 29) rfl rfl Try.func14 (by kernel_rfl) rfl #[.slice A0 l0.length c0, .slice A1 l1.length c1] rfl (taac) ?_; (with_reducible refine (laws_big.calls _ _ l0 _ _ l1 true _ ?side1 ?side2 ?side3 ?side4 A3.out).mono ?_); (case side1 => exact taen); (case side2 => exact HC0.out); (case side3 => exact taeo); (case side4 => exact HC1.out); rintro e w' ⟨rfl, ⟨nd, rfl⟩⟩; refine ⟨_, rfl, ?_⟩))
   go_ret
   exact ⟨taam, taaa⟩
 · replace c4 := zbg.mpr c4
   subst c4; have H1 : ((spec_DrawJoinOf.f k l0).bind fun bt568 => ((impl_JoinOf.f k bt568.1 bt568.2).bind fun bt574 => ((spec_JoinOf.f k bt568.1 bt568.2).bind fun bt578 => ((impl_MeetOf.f k bt568.1 bt568.2).bind fun bt582 => ((spec_MeetOf.f k bt568.1 bt568.2).bind fun bt586 => (if (bt574.2 != bt578.2) = true then (laws_FnMeetsAndJoins.j0 k bt568.1 bt568.2 bt574.1 bt574.2 bt582.1 true) else ((laws_pSame.f k bt574.1 bt578.1).bind fun t590 => (if t590 = true then (if (bt582.2 != bt586.2) = true then (laws_FnMeetsAndJoins.j0 k bt568.1 bt568.2 bt574.1 bt574.2 bt582.1 true) else ((laws_pSame.f k bt582.1 bt586.1).bind fun t591 => (if t591 = true then (laws_FnMeetsAndJoins.j0 k bt568.1 bt568.2 bt574.1 bt574.2 bt582.1 (bt582.2 != bt574.2)) else (laws_FnMeetsAndJoins.j0 k bt568.1 bt568.2 bt574.1 bt574.2 bt582.1 true)))) else (laws_FnMeetsAndJoins.j0 k bt568.1 bt568.2 bt574.1 bt574.2 bt582.1 true))))))))) = some r := by rw [if_neg (show ¬ (false = true) by decide)] at H; exact H
   clear H; have H := H1; clear H1; replace H := zay.mp H; obtain ⟨⟨t568, t569⟩, A50, H⟩ := H
   replace H : ((impl_JoinOf.f k t568 t569).bind fun bt574 => ((spec_JoinOf.f k t568 t569).bind fun bt578 => ((impl_MeetOf.f k t568 t569).bind fun bt582 => ((spec_MeetOf.f k t568 t569).bind fun bt586 => (if (bt574.2 != bt578.2) = true then (laws_FnMeetsAndJoins.j0 k t568 t569 bt574.1 bt574.2 bt582.1 true) else ((laws_pSame.f k bt574.1 bt578.1).bind fun t590 => (if t590 = true then (if (bt582.2 != bt586.2) = true then (laws_FnMeetsAndJoins.j0 k t568 t569 bt574.1 bt574.2 bt582.1 true) else ((laws_pSame.f k bt582.1 bt586.1).bind fun t591 => (if t591 = true then (laws_FnMeetsAndJoins.j0 k t568 t569 bt574.1 bt574.2 bt582.1 (bt582.2 != bt574.2)) else (laws_FnMeetsAndJoins.j0 k t568 t569 bt574.1 bt574.2 bt582.1 true)))) else (laws_FnMeetsAndJoins.j0 k t568 t569 bt574.1 bt574.2 bt582.1 true)))))))) = some r := H
   have A5 := zad A50; clear A50; replace H := zay.mp H; obtain ⟨⟨t574, t575⟩, A60, H⟩ := H
   replace H : ((spec_JoinOf.f k t568 t569).bind fun bt578 => ((impl_MeetOf.f k t568 t569).bind fun bt582 => ((spec_MeetOf.f k t568 t569).bind fun bt586 => (if (t575 != bt578.2) = true then (laws_FnMeetsAndJoins.j0 k t568 t569 t574 t575 bt582.1 true) else ((laws_pSame.f k t574 bt578.1).bind fun t590 => (if t590 = true then (if (bt582.2 != bt586.2) = true then (laws_FnMeetsAndJoins.j0 k t568 t569 t574 t575 bt582.1 true) else ((laws_pSame.f k bt582.1 bt586.1).bind fun t591 => (if t591 = true then (laws_FnMeetsAndJoins.j0 k t568 t569 t574 t575 bt582.1 (bt582.2 != t575)) else (laws_FnMeetsAndJoins.j0 k t568 t569 t574 t575 bt582.1 true)))) else (laws_FnMeetsAndJoins.j0 k t568 t569 t574 t575 bt582.1 true))))))) = some r := H
   have A6 := zad A60; clear A60; replace H := zay.mp H; obtain ⟨⟨t578, t579⟩, A70, H⟩ := H
   replace H : ((impl_MeetOf.f k t568 t569).bind fun bt582 => ((spec_MeetOf.f k t568 t569).bind fun bt586 => (if (t575 != t579) = true then (laws_FnMeetsAndJoins.j0 k t568 t569 t574 t575 bt582.1 true) else ((laws_pSame.f k t574 t578).bind fun t590 => (if t590 = true then (if (bt582.2 != bt586.2) = true then (laws_FnMeetsAndJoins.j0 k t568 t569 t574 t575 bt582.1 true) else ((laws_pSame.f k bt582.1 bt586.1).bind fun t591 => (if t591 = true then (laws_FnMeetsAndJoins.j0 k t568 t569 t574 t575 bt582.1 (bt582.2 != t575)) else (laws_FnMeetsAndJoins.j0 k t568 t569 t574 t575 bt582.1 true)))) else (laws_FnMeetsAndJoins.j0 k t568 t569 t574 t575 bt582.1 true)))))) = some r := H
   have A7 := zad A70; clear A70; replace H := zay.mp H; obtain ⟨⟨t582, t583⟩, A80, H⟩ := H
   replace H : ((spec_MeetOf.f k t568 t569).bind fun bt586 => (if (t575 != t579) = true then (laws_FnMeetsAndJoins.j0 k t568 t569 t574 t575 t582 true) else ((laws_pSame.f k t574 t578).bind fun t590 => (if t590 = true then (if (t583 != bt586.2) = true then (laws_FnMeetsAndJoins.j0 k t568 t569 t574 t575 t582 true) else ((laws_pSame.f k t582 bt586.1).bind fun t591 => (if t591 = true then (laws_FnMeetsAndJoins.j0 k t568 t569 t574 t575 t582 (t583 != t575)) else (laws_FnMeetsAndJoins.j0 k t568 t569 t574 t575 t582 true)))) else (laws_FnMeetsAndJoins.j0 k t568 t569 t574 t575 t582 true))))) = some r := H
   have A8 := zad A80; clear A80; replace H := zay.mp H; obtain ⟨⟨t586, t587⟩, A90, H⟩ := H
   replace H : (if (t575 != t579) = true then (laws_FnMeetsAndJoins.j0 k t568 t569 t574 t575 t582 true) else ((laws_pSame.f k t574 t578).bind fun t590 => (if t590 = true then (if (t583 != t587) = true then (laws_FnMeetsAndJoins.j0 k t568 t569 t574 t575 t582 true) else ((laws_pSame.f k t582 t586).bind fun t591 => (if t591 = true then (laws_FnMeetsAndJoins.j0 k t568 t569 t574 t575 t582 (t583 != t575)) else (laws_FnMeetsAndJoins.j0 k t568 t569 t574 t575 t582 true)))) else (laws_FnMeetsAndJoins.j0 k t568 t569 t574 t575 t582 true)))) = some r := H
   have A9 := zad A90; clear A90; have HC10 := zad H; clear H; go_enter Try.func4, Try.ntmps4
   go_upto_region 8 with (first | ((with_reducible refine zbf (f := 14) rfl ?_); refine zbl (some 29) rfl rfl Try.func14 (by kernel_rfl) rfl #[.slice A0 l0.length c0, .slice A1 l1.length c1] rfl (taac) ?_; (with_reducible refine (laws_big.calls _ _ l0 _ _ l1 false _ ?side1 ?side2 ?side3 ?side4 A3.out).mono ?_); (case side1 => repeat (first | exact HR0.out | (with_reducible refine zal ?_ _) | (with_reducible refine zam ?_ _) | (with_reducible refine zan ?_))); (case side2 => exact HC0.out); (case side3 => repeat (first | exact HR1.out | (with_reducible refine zal ?_ _) | (with_reducible refine zam ?_ _) | (with_reducible refine zan ?_))); (case side4 => exact HC1.out); rintro e w' ⟨rfl, ⟨nd, rfl⟩⟩; refine ⟨_, rfl, ?_⟩) | ((with_reducible refine zbf (f := 15) rfl ?_); refine zbl (some 32) rfl rfl Try.func15 (by kernel_rfl) rfl #[.slice A0 l0.length c0] rfl (taac) ?_; (with_reducible refine (spec_DrawJoinOf.calls k _ _ l0 t568 t569 _ ?side1 ?side2 A5.out).mono ?_); (case side1 => repeat (first | exact HR0.out | (with_reducible refine zal ?_ _) | (with_reducible refine zam ?_ _) | (with_reducible refine zan ?_))); (case side2 => exact HC0.out); rintro e w11 ⟨v570, v572, rfl, ho0, ho1, hb⟩; refine ⟨_, rfl, ?_⟩; have n0_ := zad (zbs ho0 (zbi (taaa))); have n1_ := zad (zbs ho1 (zbi (taaa))); have n2_ := zad (zbe (taaa) hb); clear HB; have HO571 := n0_; have HO573 := n1_; have HB := n2_; clear n0_ n1_ n2_; (try clear hb); (try clear hb2); (try clear hk); (try clear hi); (try clear ho0); (try clear ho1); obtain ⟨Ao12, co12, eo12⟩ := zbt HO571.out; subst eo12; obtain ⟨Ao13, co13, eo13⟩ := zbt HO573.out; subst eo13) | ((with_reducible refine zbf (f := 16) rfl ?_); refine zbl (some 38) rfl rfl Try.func16 (by kernel_rfl) rfl #[.slice Ao12 t568.length co12, .slice Ao13 t569.length co13] rfl (taac) ?_; (with_reducible refine (impl_JoinOf.calls k _ _ t568 _ _ t569 t574 t575 _ ?side1 ?side2 ?side3 ?side4 A6.out).mono ?_); (case side1 => repeat (first | exact (zbd HO571.out).2.2 | (with_reducible refine zal ?_ _) | (with_reducible refine zam ?_ _) | (with_reducible refine zan ?_))); (case side2 => exact (zbd HO571.out).2.1); (case side3 => repeat (first | exact (zbd HO573.out).2.2 | (with_reducible refine zal ?_ _) | (with_reducible refine zam ?_ _) | (with_reducible refine zan ?_))); (case side4 => exact (zbd HO573.out).2.1); rintro e w14 ⟨v576, rfl, ho0, hb⟩; refine ⟨_, rfl, ?_⟩; have n0_ := zad (zby (tabk) (zca ho0) hb); have n1_ := zad (zby (tabl) (zca ho0) hb); have n2_ := zad (zbs (zbz (zbz ho0 (zcb (tabk))) (zcb (tabl))) (zbi (taaa))); have n3_ := zad (zbe (taaa) hb); clear HO571 HO573 HB; have HO571 := n0_; have HO573 := n1_; have HO577 := n2_; have HB := n3_; clear n0_ n1_ n2_ n3_; (try clear hb); (try clear hb2); (try clear hk); (try clear hi); (try clear ho0)) | ((with_reducible refine zbf (f := 17) rfl ?_); refine zbl (some 44) rfl rfl Try.func17 (by kernel_rfl) rfl #[.slice Ao12 t568.length co12, .slice Ao13 t569.length co13] rfl (taac) ?_; (with_reducible refine (spec_JoinOf.calls k _ _ t568 _ _ t569 t578 t579 _ ?side1 ?side2 ?side3 ?side4 A7.out).mono ?_); (case side1 => repeat (first | exact (zbd HO571.out).2.2 | (with_reducible refine zal ?_ _) | (with_reducible refine zam ?_ _) | (with_reducible refine zan ?_))); (case side2 => exact (zbd HO571.out).2.1); (case side3 => repeat (first | exact (zbd HO573.out).2.2 | (with_reducible refine zal ?_ _) | (with_reducible refine zam ?_ _) | (with_reducible refine zan ?_))); (case side4 => exact (zbd HO573.out).2.1); rintro e w15 ⟨v580, rfl, ho0, hb⟩; refine ⟨_, rfl, ?_⟩; have n0_ := zad (zby (tabk) (zca ho0) hb); have n1_ := zad (zby (tabl) (zca ho0) hb); have n2_ := zad (zby (tabt) (zca ho0) hb); have n3_ := zad (zbs (zbz (zbz (zbz ho0 (zcb (tabk))) (zcb (tabl))) (zcb (tabt))) (zbi (taaa))); have n4_ := zad (zbe (taaa) hb); clear HO571 HO573 HO577 HB; have HO571 := n0_; have HO573 := n1_; have HO577 := n2_; have HO581 := n3_; have HB := n4_; clear n0_ n1_ n2_ n3_ n4_; (try clear hb); (try clear hb2); (try clear hk); (try clear hi); (try clear ho0)) | ((with_reducible refine zbf (f := 18) rfl ?_); refine zbl (some 50) rfl rfl Try.func18 (by kernel_rfl) rfl #[.slice Ao12 t568.length co12, .slice Ao13 t569.length co13] rfl (taac) ?_; (with_reducible refine (impl_MeetOf.calls k _ _ t568 _ _ t569 t582 t583 _ ?side1 ?side2 ?side3 ?side4 A8.out).mono ?_); (case side1 => repeat (first | exact (zbd HO571.out).2.2 | (with_reducible refine zal ?_ _) | (with_reducible refine zam ?_ _) | (with_reducible refine zan ?_))); (case side2 => exact (zbd HO571.out).2.1); (case side3 => repeat (first | exact (zbd HO573.out).2.2 | (with_reducible refine zal ?_ _) | (with_reducible refine zam ?_ _) | (with_reducible refine zan ?_))); (case side4 => exact (zbd HO573.out).2.1); rintro e w16 ⟨v584, rfl, ho0, hb⟩; refine ⟨_, rfl, ?_⟩; have n0_ := zad (zby (tabk) (zca ho0) hb); have n1_ := zad (zby (tabl) (zca ho0) hb); have n2_ := zad (zby (tabt) (zca ho0) hb); have n3_ := zad (zby (tacn) (zca ho0) hb); have n4_ := zad (zbs (zbz (zbz (zbz (zbz ho0 (zcb (tabk))) (zcb (tabl))) (zcb (tabt))) (zcb (tacn))) (zbi (taaa))); have n5_ := zad (zbe (taaa) hb); clear HO571 HO573 HO577 HO581 HB; have HO571 := n0_; have HO573 := n1_; have HO577 := n2_; have HO581 := n3_; have HO585 := n4_; have HB := n5_; clear n0_ n1_ n2_ n3_ n4_ n5_; (try clear hb); (try clear hb2); (try clear hk); (try clear hi); (try clear ho0)) | ((with_reducible refine zbf (f := 19) rfl ?_); refine zbl (some 56) rfl rfl Try.func19 (by kernel_rfl) rfl #[.slice Ao12 t568.length co12, .slice Ao13 t569.length co13] rfl (taac) ?_; (with_reducible refine (spec_MeetOf.calls k _ _ t568 _ _ t569 t586 t587 _ ?side1 ?side2 ?side3 ?side4 A9.out).mono ?_); (case side1 => repeat (first | exact (zbd HO571.out).2.2 | (with_reducible refine zal ?_ _) | (with_reducible refine zam ?_ _) | (with_reducible refine zan ?_))); (case side2 => exact (zbd HO571.out).2.1); (case side3 => repeat (first | exact (zbd HO573.out).2.2 | (with_reducible refine zal ?_ _) | (with_reducible refine zam ?_ _) | (with_reducible refine zan ?_))); (case side4 => exact (zbd HO573.out).2.1); rintro e w17 ⟨v588, rfl, ho0, hb⟩; refine ⟨_, rfl, ?_⟩; have n0_ := zad (zby (tabk) (zca ho0) hb); have n1_ := zad (zby (tabl) (zca ho0) hb); have n2_ := zad (zby (tabt) (zca ho0) hb); have n3_ := zad (zby (tacn) (zca ho0) hb); have n4_ := zad (zby (tadv) (zca ho0) hb); have n5_ := zad (zbs (zbz (zbz (zbz (zbz (zbz ho0 (zcb (tabk))) (zcb (tabl))) (zcb (tabt))) (zcb (tacn))) (zcb (tadv))) (zbi (taaa))); have n6_ := zad (zbe (taaa) hb); clear HO571 HO573 HO577 HO581 HO585 HB; have HO571 := n0_; have HO573 := n1_; have HO577 := n2_; have HO581 := n3_; have HO585 := n4_; have HO589 := n5_; have HB := n6_; clear n0_ n1_ n2_ n3_ n4_ n5_ n6_; (try clear hb); (try clear hb2); (try clear hk); (try clear hi); (try clear ho0)))
   (try simp only [Act.put, zaa, zab, zac])
   go_cut [83] (fun v83 wc => ∃ (kq : Nat) (x83_9 : Bool), v83 = .bool x83_9 ∧ Aside0 (laws_FnMeetsAndJoins.j0 kq t568 t569 t574 t575 t582 x83_9 = some r) ∧ Aside0 (kq ≤ k) ∧ Aside0 (Kd.R (Kd.int .i64) 3 wc w.heap.size (fun k_ => some k_ ≠ ((.slice Ao13 t569.length co13) : Value).ownBlock ∧ some k_ ≠ (v576 : Value).ownBlock ∧ some k_ ≠ (v584 : Value).ownBlock) (.slice Ao12 t568.length co12) t568) ∧ Aside0 (Kd.R (Kd.int .i64) 3 wc w.heap.size (fun k_ => some k_ ≠ ((.slice Ao12 t568.length co12) : Value).ownBlock ∧ some k_ ≠ (v576 : Value).ownBlock ∧ some k_ ≠ (v584 : Value).ownBlock) (.slice Ao13 t569.length co13) t569) ∧ Aside0 (Kd.R (Kd.int .i64) 3 wc w.heap.size (fun k_ => some k_ ≠ ((.slice Ao12 t568.length co12) : Value).ownBlock ∧ some k_ ≠ ((.slice Ao13 t569.length co13) : Value).ownBlock ∧ some k_ ≠ (v584 : Value).ownBlock) v576 t574) ∧ Aside0 (Kd.R (Kd.int .i64) 3 wc w.heap.size (fun k_ => some k_ ≠ ((.slice Ao12 t568.length co12) : Value).ownBlock ∧ some k_ ≠ ((.slice Ao13 t569.length co13) : Value).ownBlock ∧ some k_ ≠ (v576 : Value).ownBlock) v584 t582) ∧ Aside0 (Below w.heap.size w wc))
   case first => as_aux_lemma =>
    have H := HC10.out
    clear HC10; by_cases c18 : (t575 != t579) = true
    · rw [if_pos c18] at H
      have c18b0 : (t575 != t579) = true := c18
      (try (have c18b1 : decide (t575 = t579) = false := by simpa using c18))
      (try (have c18b2 : (t575 == t579) = false := by simpa using c18))
      (try (have c18b3 : ¬ (t575 = t579) := by simpa using c18))
      clear c18; (first | rw [c18b0] | (simp only [zbu, zbv]; rw [c18b0]) | skip)
      have H' := zad H
      clear H; go_wp2
      go_meet
      case rel => exact ⟨_, (true), (taad), H', ⟨taay⟩, ⟨tabw⟩, ⟨tabx⟩, ⟨taby⟩, ⟨tabz⟩, ⟨taaa⟩⟩
    · rw [if_neg c18] at H
      have c18b0 : (t575 != t579) = false := by simpa using c18
      (try (have c18b1 : decide (t575 = t579) = true := by simpa using c18))
      (try (have c18b2 : (t575 == t579) = true := by simpa using c18))
      clear c18; (first | rw [c18b0] | (simp only [zbu, zbv]; rw [c18b0]) | skip)
      replace H := zay.mp H; obtain ⟨t590, A190, H⟩ := H
      replace H : (if t590 = true then (if (t583 != t587) = true then (laws_FnMeetsAndJoins.j0 k t568 t569 t574 t575 t582 true) else ((laws_pSame.f k t582 t586).bind fun t591 => (if t591 = true then (laws_FnMeetsAndJoins.j0 k t568 t569 t574 t575 t582 (t583 != t575)) else (laws_FnMeetsAndJoins.j0 k t568 t569 t574 t575 t582 true)))) else (laws_FnMeetsAndJoins.j0 k t568 t569 t574 t575 t582 true)) = some r := H
      have A19 := zad A190; clear A190; by_cases c20 : t590 = true
      · subst c20
        have H1 : (if (t583 != t587) = true then (laws_FnMeetsAndJoins.j0 k t568 t569 t574 t575 t582 true) else ((laws_pSame.f k t582 t586).bind fun t591 => (if t591 = true then (laws_FnMeetsAndJoins.j0 k t568 t569 t574 t575 t582 (t583 != t575)) else (laws_FnMeetsAndJoins.j0 k t568 t569 t574 t575 t582 true)))) = some r := by rw [if_pos rfl] at H; exact H
        clear H; have H := H1; clear H1; by_cases c21 : (t583 != t587) = true
        · rw [if_pos c21] at H
          have c21b0 : (t583 != t587) = true := c21
          (try (have c21b1 : decide (t583 = t587) = false := by simpa using c21))
          (try (have c21b2 : (t583 == t587) = false := by simpa using c21))
          (try (have c21b3 : ¬ (t583 = t587) := by simpa using c21))
          clear c21; have H' := zad H
          clear H; obtain ⟨Ao22, co22, eo22⟩ := zbt HO577.out
          subst eo22; obtain ⟨Ao23, co23, eo23⟩ := zbt HO581.out
          subst eo23; go_wp2_with (first | (go_at_call 20; (with_reducible refine (laws_pSame.calls k _ _ t574 _ _ t578 true _ ?side1 ?side2 ?side3 ?side4 A19.out).mono ?_); (case side1 => exact taev); (case side2 => exact (zbd HO577.out).2.1); (case side3 => exact taew); (case side4 => exact (zbd HO581.out).2.1); rintro e w' ⟨rfl, ⟨nd, rfl⟩⟩))
          go_meet
          case rel => exact ⟨_, (true), (taad), H', ⟨taay⟩, ⟨tabw⟩, ⟨tabx⟩, ⟨taby⟩, ⟨tabz⟩, ⟨taaa⟩⟩
        · rw [if_neg c21] at H
          have c21b0 : (t583 != t587) = false := by simpa using c21
          (try (have c21b1 : decide (t583 = t587) = true := by simpa using c21))
          (try (have c21b2 : (t583 == t587) = true := by simpa using c21))
          clear c21; replace H := zay.mp H; obtain ⟨t591, A240, H⟩ := H
          replace H : (if t591 = true then (laws_FnMeetsAndJoins.j0 k t568 t569 t574 t575 t582 (t583 != t575)) else (laws_FnMeetsAndJoins.j0 k t568 t569 t574 t575 t582 true)) = some r := H
          have A24 := zad A240; clear A240; by_cases c25 : t591 = true
          · subst c25
            have H1 : (laws_FnMeetsAndJoins.j0 k t568 t569 t574 t575 t582 (t583 != t575)) = some r := by rw [if_pos rfl] at H; exact H
            clear H; have H := H1; clear H1; have H' := zad H
            clear H; obtain ⟨Ao26, co26, eo26⟩ := zbt HO577.out
            subst eo26; obtain ⟨Ao27, co27, eo27⟩ := zbt HO581.out
            subst eo27; go_wp2_with (first | (go_at_call 20; (with_reducible refine (laws_pSame.calls k _ _ t574 _ _ t578 true _ ?side1 ?side2 ?side3 ?side4 A19.out).mono ?_); (case side1 => repeat (first | exact (zbd HO577.out).2.2 | (with_reducible refine zal ?_ _) | (with_reducible refine zam ?_ _) | (with_reducible refine zan ?_))); (case side2 => exact (zbd HO577.out).2.1); (case side3 => repeat (first | exact (zbd HO581.out).2.2 | (with_reducible refine zal ?_ _) | (with_reducible refine zam ?_ _) | (with_reducible refine zan ?_))); (case side4 => exact (zbd HO581.out).2.1); rintro e w' ⟨rfl, ⟨nd, rfl⟩⟩; obtain ⟨Ao28, co28, eo28⟩ := zbt HO585.out; subst eo28; obtain ⟨Ao29, co29, eo29⟩ := zbt HO589.out; subst eo29) | (go_at_call 20; (with_reducible refine (laws_pSame.calls k _ _ t582 _ _ t586 true _ ?side1 ?side2 ?side3 ?side4 A24.out).mono ?_); (case side1 => repeat (first | exact (zbd HO585.out).2.2 | (with_reducible refine zal ?_ _) | (with_reducible refine zam ?_ _) | (with_reducible refine zan ?_))); (case side2 => exact (zbd HO585.out).2.1); (case side3 => repeat (first | exact (zbd HO589.out).2.2 | (with_reducible refine zal ?_ _) | (with_reducible refine zam ?_ _) | (with_reducible refine zan ?_))); (case side4 => exact (zbd HO589.out).2.1); rintro e w' ⟨rfl, ⟨nd, rfl⟩⟩))
            go_meet
            case rel => exact ⟨_, ((t583 != t575)), (taad), H', ⟨taay⟩, ⟨tabw⟩, ⟨tabx⟩, ⟨taby⟩, ⟨tabz⟩, ⟨taaa⟩⟩
          · replace c25 := zbg.mpr c25
            subst c25; have H1 : (laws_FnMeetsAndJoins.j0 k t568 t569 t574 t575 t582 true) = some r := by rw [if_neg (show ¬ (false = true) by decide)] at H; exact H
            clear H; have H := H1; clear H1; have H' := zad H
            clear H; obtain ⟨Ao30, co30, eo30⟩ := zbt HO577.out
            subst eo30; obtain ⟨Ao31, co31, eo31⟩ := zbt HO581.out
            subst eo31; go_wp2_with (first | (go_at_call 20; (with_reducible refine (laws_pSame.calls k _ _ t574 _ _ t578 true _ ?side1 ?side2 ?side3 ?side4 A19.out).mono ?_); (case side1 => repeat (first | exact (zbd HO577.out).2.2 | (with_reducible refine zal ?_ _) | (with_reducible refine zam ?_ _) | (with_reducible refine zan ?_))); (case side2 => exact (zbd HO577.out).2.1); (case side3 => repeat (first | exact (zbd HO581.out).2.2 | (with_reducible refine zal ?_ _) | (with_reducible refine zam ?_ _) | (with_reducible refine zan ?_))); (case side4 => exact (zbd HO581.out).2.1); rintro e w' ⟨rfl, ⟨nd, rfl⟩⟩; obtain ⟨Ao32, co32, eo32⟩ := zbt HO585.out; subst eo32; obtain ⟨Ao33, co33, eo33⟩ := zbt HO589.out; subst eo33) | (go_at_call 20; (with_reducible refine (laws_pSame.calls k _ _ t582 _ _ t586 false _ ?side1 ?side2 ?side3 ?side4 A24.out).mono ?_); (case side1 => repeat (first | exact (zbd HO585.out).2.2 | (with_reducible refine zal ?_ _) | (with_reducible refine zam ?_ _) | (with_reducible refine zan ?_))); (case side2 => exact (zbd HO585.out).2.1); (case side3 => repeat (first | exact (zbd HO589.out).2.2 | (with_reducible refine zal ?_ _) | (with_reducible refine zam ?_ _) | (with_reducible refine zan ?_))); (case side4 => exact (zbd HO589.out).2.1); rintro e w' ⟨rfl, ⟨nd, rfl⟩⟩))
            go_meet
            case rel => exact ⟨_, (true), (taad), H', ⟨taay⟩, ⟨tabw⟩, ⟨tabx⟩, ⟨taby⟩, ⟨tabz⟩, ⟨taaa⟩⟩
      · replace c20 := zbg.mpr c20
        subst c20; have H1 : (laws_FnMeetsAndJoins.j0 k t568 t569 t574 t575 t582 true) = some r := by rw [if_neg (show ¬ (false = true) by decide)] at H; exact H
        clear H; have H := H1; clear H1; have H' := zad H
        clear H; obtain ⟨Ao34, co34, eo34⟩ := zbt HO577.out
        subst eo34; obtain ⟨Ao35, co35, eo35⟩ := zbt HO581.out
        subst eo35; go_wp2_with (first | (go_at_call 20; (with_reducible refine (laws_pSame.calls k _ _ t574 _ _ t578 false _ ?side1 ?side2 ?side3 ?side4 A19.out).mono ?_); (case side1 => exact taev); (case side2 => exact (zbd HO577.out).2.1); (case side3 => exact taew); (case side4 => exact (zbd HO581.out).2.1); rintro e w' ⟨rfl, ⟨nd, rfl⟩⟩))
        go_meet
        case rel => exact ⟨_, (true), (taad), H', ⟨taay⟩, ⟨tabw⟩, ⟨tabx⟩, ⟨taby⟩, ⟨tabz⟩, ⟨taaa⟩⟩
   case rest => as_aux_lemma =>
    clear HC10; try clear c1
    try clear c2
    try clear p2
    try clear c4
    try clear c14
    try clear c15
    try clear c16
    try clear c17
    try clear c18
    try clear c18b0
    try clear c18b1
    try clear c18b2
    try clear c19
    try clear c20
    try clear c21
    try clear c21b0
    try clear c21b1
    try clear c21b2
    try clear c25
    obtain ⟨kq, x83_9, rfl, HA, HJ9, HO_5, HO_6, HO_7, HO_11, HB⟩ := hcut
    cases kq with
    | zero => exact absurd HA.out (by simp [laws_FnMeetsAndJoins.j0])
    | succ kj9 =>
     have H := HA.out
     clear HA; simp only [laws_FnMeetsAndJoins.j0] at H
     by_cases c36 : x83_9 = true
     · subst c36
       have H1 : (some false) = some r := by rw [if_pos rfl] at H; exact H
       clear H; have H := H1; clear H1; obtain rfl := zbc H
       go_wp2
       go_ret
       exact ⟨taam, taaa⟩
     · replace c36 := zbg.mpr c36
       subst c36; have H1 : (if t575 = true then ((impl_RankingOf.f kj9 t568).bind fun bt592 => ((impl_MeetOf.f kj9 t568 t574).bind fun bt596 => ((impl_JoinOf.f kj9 t568 t582).bind fun bt600 => (if bt592.2 = true then (if bt596.2 = true then (if bt600.2 = true then ((laws_pBelow.f kj9 t582 t568).bind fun t604 => (if t604 = true then ((laws_pBelow.f kj9 t582 t569).bind fun t605 => (if t605 = true then ((laws_pBelow.f kj9 t568 t574).bind fun t606 => (if t606 = true then ((laws_pBelow.f kj9 t569 t574).bind fun t607 => (if t607 = true then ((laws_pSame.f kj9 bt596.1 bt592.1).bind fun t608 => (if t608 = true then ((laws_pSame.f kj9 bt600.1 bt592.1).bind fun t609 => (laws_FnMeetsAndJoins.j1 kj9 t568 t569 t574 t582 (!t609))) else (laws_FnMeetsAndJoins.j1 kj9 t568 t569 t574 t582 true))) else (laws_FnMeetsAndJoins.j1 kj9 t568 t569 t574 t582 true))) else (laws_FnMeetsAndJoins.j1 kj9 t568 t569 t574 t582 true))) else (laws_FnMeetsAndJoins.j1 kj9 t568 t569 t574 t582 true))) else (laws_FnMeetsAndJoins.j1 kj9 t568 t569 t574 t582 true))) else (laws_FnMeetsAndJoins.j1 kj9 t568 t569 t574 t582 true)) else (laws_FnMeetsAndJoins.j1 kj9 t568 t569 t574 t582 true)) else (laws_FnMeetsAndJoins.j1 kj9 t568 t569 t574 t582 true))))) else (some true)) = some r := by rw [if_neg (show ¬ (false = true) by decide)] at H; exact H
       clear H; have H := H1; clear H1; by_cases c37 : t575 = true
       · subst c37
         have H1 : ((impl_RankingOf.f kj9 t568).bind fun bt592 => ((impl_MeetOf.f kj9 t568 t574).bind fun bt596 => ((impl_JoinOf.f kj9 t568 t582).bind fun bt600 => (if bt592.2 = true then (if bt596.2 = true then (if bt600.2 = true then ((laws_pBelow.f kj9 t582 t568).bind fun t604 => (if t604 = true then ((laws_pBelow.f kj9 t582 t569).bind fun t605 => (if t605 = true then ((laws_pBelow.f kj9 t568 t574).bind fun t606 => (if t606 = true then ((laws_pBelow.f kj9 t569 t574).bind fun t607 => (if t607 = true then ((laws_pSame.f kj9 bt596.1 bt592.1).bind fun t608 => (if t608 = true then ((laws_pSame.f kj9 bt600.1 bt592.1).bind fun t609 => (laws_FnMeetsAndJoins.j1 kj9 t568 t569 t574 t582 (!t609))) else (laws_FnMeetsAndJoins.j1 kj9 t568 t569 t574 t582 true))) else (laws_FnMeetsAndJoins.j1 kj9 t568 t569 t574 t582 true))) else (laws_FnMeetsAndJoins.j1 kj9 t568 t569 t574 t582 true))) else (laws_FnMeetsAndJoins.j1 kj9 t568 t569 t574 t582 true))) else (laws_FnMeetsAndJoins.j1 kj9 t568 t569 t574 t582 true))) else (laws_FnMeetsAndJoins.j1 kj9 t568 t569 t574 t582 true)) else (laws_FnMeetsAndJoins.j1 kj9 t568 t569 t574 t582 true)) else (laws_FnMeetsAndJoins.j1 kj9 t568 t569 t574 t582 true))))) = some r := by rw [if_pos rfl] at H; exact H
         clear H; have H := H1; clear H1; replace H := zay.mp H; obtain ⟨⟨t592, t593⟩, A380, H⟩ := H
         replace H : ((impl_MeetOf.f kj9 t568 t574).bind fun bt596 => ((impl_JoinOf.f kj9 t568 t582).bind fun bt600 => (if t593 = true then (if bt596.2 = true then (if bt600.2 = true then ((laws_pBelow.f kj9 t582 t568).bind fun t604 => (if t604 = true then ((laws_pBelow.f kj9 t582 t569).bind fun t605 => (if t605 = true then ((laws_pBelow.f kj9 t568 t574).bind fun t606 => (if t606 = true then ((laws_pBelow.f kj9 t569 t574).bind fun t607 => (if t607 = true then ((laws_pSame.f kj9 bt596.1 t592).bind fun t608 => (if t608 = true then ((laws_pSame.f kj9 bt600.1 t592).bind fun t609 => (laws_FnMeetsAndJoins.j1 kj9 t568 t569 t574 t582 (!t609))) else (laws_FnMeetsAndJoins.j1 kj9 t568 t569 t574 t582 true))) else (laws_FnMeetsAndJoins.j1 kj9 t568 t569 t574 t582 true))) else (laws_FnMeetsAndJoins.j1 kj9 t568 t569 t574 t582 true))) else (laws_FnMeetsAndJoins.j1 kj9 t568 t569 t574 t582 true))) else (laws_FnMeetsAndJoins.j1 kj9 t568 t569 t574 t582 true))) else (laws_FnMeetsAndJoins.j1 kj9 t568 t569 t574 t582 true)) else (laws_FnMeetsAndJoins.j1 kj9 t568 t569 t574 t582 true)) else (laws_FnMeetsAndJoins.j1 kj9 t568 t569 t574 t582 true)))) = some r := H
         have A38 := zad A380; clear A380; replace H := zay.mp H; obtain ⟨⟨t596, t597⟩, A390, H⟩ := H
         replace H : ((impl_JoinOf.f kj9 t568 t582).bind fun bt600 => (if t593 = true then (if t597 = true then (if bt600.2 = true then ((laws_pBelow.f kj9 t582 t568).bind fun t604 => (if t604 = true then ((laws_pBelow.f kj9 t582 t569).bind fun t605 => (if t605 = true then ((laws_pBelow.f kj9 t568 t574).bind fun t606 => (if t606 = true then ((laws_pBelow.f kj9 t569 t574).bind fun t607 => (if t607 = true then ((laws_pSame.f kj9 t596 t592).bind fun t608 => (if t608 = true then ((laws_pSame.f kj9 bt600.1 t592).bind fun t609 => (laws_FnMeetsAndJoins.j1 kj9 t568 t569 t574 t582 (!t609))) else (laws_FnMeetsAndJoins.j1 kj9 t568 t569 t574 t582 true))) else (laws_FnMeetsAndJoins.j1 kj9 t568 t569 t574 t582 true))) else (laws_FnMeetsAndJoins.j1 kj9 t568 t569 t574 t582 true))) else (laws_FnMeetsAndJoins.j1 kj9 t568 t569 t574 t582 true))) else (laws_FnMeetsAndJoins.j1 kj9 t568 t569 t574 t582 true))) else (laws_FnMeetsAndJoins.j1 kj9 t568 t569 t574 t582 true)) else (laws_FnMeetsAndJoins.j1 kj9 t568 t569 t574 t582 true)) else (laws_FnMeetsAndJoins.j1 kj9 t568 t569 t574 t582 true))) = some r := H
         have A39 := zad A390; clear A390; replace H := zay.mp H; obtain ⟨⟨t600, t601⟩, A400, H⟩ := H
         replace H : (if t593 = true then (if t597 = true then (if t601 = true then ((laws_pBelow.f kj9 t582 t568).bind fun t604 => (if t604 = true then ((laws_pBelow.f kj9 t582 t569).bind fun t605 => (if t605 = true then ((laws_pBelow.f kj9 t568 t574).bind fun t606 => (if t606 = true then ((laws_pBelow.f kj9 t569 t574).bind fun t607 => (if t607 = true then ((laws_pSame.f kj9 t596 t592).bind fun t608 => (if t608 = true then ((laws_pSame.f kj9 t600 t592).bind fun t609 => (laws_FnMeetsAndJoins.j1 kj9 t568 t569 t574 t582 (!t609))) else (laws_FnMeetsAndJoins.j1 kj9 t568 t569 t574 t582 true))) else (laws_FnMeetsAndJoins.j1 kj9 t568 t569 t574 t582 true))) else (laws_FnMeetsAndJoins.j1 kj9 t568 t569 t574 t582 true))) else (laws_FnMeetsAndJoins.j1 kj9 t568 t569 t574 t582 true))) else (laws_FnMeetsAndJoins.j1 kj9 t568 t569 t574 t582 true))) else (laws_FnMeetsAndJoins.j1 kj9 t568 t569 t574 t582 true)) else (laws_FnMeetsAndJoins.j1 kj9 t568 t569 t574 t582 true)) else (laws_FnMeetsAndJoins.j1 kj9 t568 t569 t574 t582 true)) = some r := H
         have A40 := zad A400; clear A400; have HC41 := zad H; clear H; go_upto_region 15 with (first | ((with_reducible refine zbf (f := 21) rfl ?_); refine zbl (some 88) rfl rfl Try.func21 (by kernel_rfl) rfl #[.slice Ao12 t568.length co12] rfl (taac) ?_; (with_reducible refine (impl_RankingOf.calls kj9 _ _ t568 t592 t593 _ ?side1 ?side2 A38.out).mono ?_); (case side1 => repeat (first | exact (zbd HO_5.out).2.2 | (with_reducible refine zal ?_ _) | (with_reducible refine zam ?_ _) | (with_reducible refine zan ?_))); (case side2 => exact (zbd HO_5.out).2.1); rintro e w42 ⟨v594, rfl, ho0, hb⟩; refine ⟨_, rfl, ?_⟩; have n0_ := zad (zby (taaf) (zca ho0) hb); have n1_ := zad (zby (taae) (zca ho0) hb); have n2_ := zad (zby (taag) (zca ho0) hb); have n3_ := zad (zby (taaj) (zca ho0) hb); have n4_ := zad (zbs (zbz (zbz (zbz (zbz ho0 (zcb (taaf))) (zcb (taae))) (zcb (taag))) (zcb (taaj))) (zbi (taaa))); have n5_ := zad (zbe (taaa) hb); clear HO_5 HO_6 HO_7 HO_11 HB; have HO_5 := n0_; have HO_6 := n1_; have HO_7 := n2_; have HO_11 := n3_; have HO595 := n4_; have HB := n5_; clear n0_ n1_ n2_ n3_ n4_ n5_; (try clear hb); (try clear hb2); (try clear hk); (try clear hi); (try clear ho0); obtain ⟨Ao43, co43, eo43⟩ := zbt HO_7.out; subst eo43) | ((with_reducible refine zbf (f := 18) rfl ?_); refine zbl (some 94) rfl rfl Try.func18 (by kernel_rfl) rfl #[.slice Ao12 t568.length co12, .slice Ao43 t574.length co43] rfl (taac) ?_; (with_reducible refine (impl_MeetOf.calls kj9 _ _ t568 _ _ t574 t596 t597 _ ?side1 ?side2 ?side3 ?side4 A39.out).mono ?_); (case side1 => repeat (first | exact (zbd HO_5.out).2.2 | (with_reducible refine zal ?_ _) | (with_reducible refine zam ?_ _) | (with_reducible refine zan ?_))); (case side2 => exact (zbd HO_5.out).2.1); (case side3 => repeat (first | exact (zbd HO_7.out).2.2 | (with_reducible refine zal ?_ _) | (with_reducible refine zam ?_ _) | (with_reducible refine zan ?_))); (case side4 => exact (zbd HO_7.out).2.1); rintro e w44 ⟨v598, rfl, ho0, hb⟩; refine ⟨_, rfl, ?_⟩; have n0_ := zad (zby (taaf) (zca ho0) hb); have n1_ := zad (zby (taae) (zca ho0) hb); have n2_ := zad (zby (taag) (zca ho0) hb); have n3_ := zad (zby (taaj) (zca ho0) hb); have n4_ := zad (zby (taas) (zca ho0) hb); have n5_ := zad (zbs (zbz (zbz (zbz (zbz (zbz ho0 (zcb (taaf))) (zcb (taae))) (zcb (taag))) (zcb (taaj))) (zcb (taas))) (zbi (taaa))); have n6_ := zad (zbe (taaa) hb); clear HO_5 HO_6 HO_7 HO_11 HO595 HB; have HO_5 := n0_; have HO_6 := n1_; have HO_7 := n2_; have HO_11 := n3_; have HO595 := n4_; have HO599 := n5_; have HB := n6_; clear n0_ n1_ n2_ n3_ n4_ n5_ n6_; (try clear hb); (try clear hb2); (try clear hk); (try clear hi); (try clear ho0); obtain ⟨Ao45, co45, eo45⟩ := zbt HO_11.out; subst eo45) | ((with_reducible refine zbf (f := 16) rfl ?_); refine zbl (some 100) rfl rfl Try.func16 (by kernel_rfl) rfl #[.slice Ao12 t568.length co12, .slice Ao45 t582.length co45] rfl (taac) ?_; (with_reducible refine (impl_JoinOf.calls kj9 _ _ t568 _ _ t582 t600 t601 _ ?side1 ?side2 ?side3 ?side4 A40.out).mono ?_); (case side1 => repeat (first | exact (zbd HO_5.out).2.2 | (with_reducible refine zal ?_ _) | (with_reducible refine zam ?_ _) | (with_reducible refine zan ?_))); (case side2 => exact (zbd HO_5.out).2.1); (case side3 => repeat (first | exact (zbd HO_11.out).2.2 | (with_reducible refine zal ?_ _) | (with_reducible refine zam ?_ _) | (with_reducible refine zan ?_))); (case side4 => exact (zbd HO_11.out).2.1); rintro e w46 ⟨v602, rfl, ho0, hb⟩; refine ⟨_, rfl, ?_⟩; have n0_ := zad (zby (taaf) (zca ho0) hb); have n1_ := zad (zby (taae) (zca ho0) hb); have n2_ := zad (zby (taag) (zca ho0) hb); have n3_ := zad (zby (taaj) (zca ho0) hb); have n4_ := zad (zby (taas) (zca ho0) hb); have n5_ := zad (zby (taat) (zca ho0) hb); have n6_ := zad (zbs (zbz (zbz (zbz (zbz (zbz (zbz ho0 (zcb (taaf))) (zcb (taae))) (zcb (taag))) (zcb (taaj))) (zcb (taas))) (zcb (taat))) (zbi (taaa))); have n7_ := zad (zbe (taaa) hb); clear HO_5 HO_6 HO_7 HO_11 HO595 HO599 HB; have HO_5 := n0_; have HO_6 := n1_; have HO_7 := n2_; have HO_11 := n3_; have HO595 := n4_; have HO599 := n5_; have HO603 := n6_; have HB := n7_; clear n0_ n1_ n2_ n3_ n4_ n5_ n6_ n7_; (try clear hb); (try clear hb2); (try clear hk); (try clear hi); (try clear ho0)))
         (try simp only [Act.put, zaa, zab, zac])
         go_cut [148] (fun v148 wc => ∃ (kq : Nat) (x148_40 : Bool), v148 = .bool x148_40 ∧ Aside0 (laws_FnMeetsAndJoins.j1 kq t568 t569 t574 t582 x148_40 = some r) ∧ Aside0 (kq ≤ kj9) ∧ Aside0 (Kd.R (Kd.int .i64) 3 wc w.heap.size (fun k_ => some k_ ≠ ((.slice Ao13 t569.length co13) : Value).ownBlock ∧ some k_ ≠ ((.slice Ao43 t574.length co43) : Value).ownBlock ∧ some k_ ≠ ((.slice Ao45 t582.length co45) : Value).ownBlock) (.slice Ao12 t568.length co12) t568) ∧ Aside0 (Kd.R (Kd.int .i64) 3 wc w.heap.size (fun k_ => some k_ ≠ ((.slice Ao12 t568.length co12) : Value).ownBlock ∧ some k_ ≠ ((.slice Ao43 t574.length co43) : Value).ownBlock ∧ some k_ ≠ ((.slice Ao45 t582.length co45) : Value).ownBlock) (.slice Ao13 t569.length co13) t569) ∧ Aside0 (Kd.R (Kd.int .i64) 3 wc w.heap.size (fun k_ => some k_ ≠ ((.slice Ao12 t568.length co12) : Value).ownBlock ∧ some k_ ≠ ((.slice Ao13 t569.length co13) : Value).ownBlock ∧ some k_ ≠ ((.slice Ao45 t582.length co45) : Value).ownBlock) (.slice Ao43 t574.length co43) t574) ∧ Aside0 (Kd.R (Kd.int .i64) 3 wc w.heap.size (fun k_ => some k_ ≠ ((.slice Ao12 t568.length co12) : Value).ownBlock ∧ some k_ ≠ ((.slice Ao13 t569.length co13) : Value).ownBlock ∧ some k_ ≠ ((.slice Ao43 t574.length co43) : Value).ownBlock) (.slice Ao45 t582.length co45) t582) ∧ Aside0 (Below w.heap.size w wc))
         case first => as_aux_lemma =>
          have H := HC41.out
          clear HC41; by_cases c47 : t593 = true
          · subst c47
            have H1 : (if t597 = true then (if t601 = true then ((laws_pBelow.f kj9 t582 t568).bind fun t604 => (if t604 = true then ((laws_pBelow.f kj9 t582 t569).bind fun t605 => (if t605 = true then ((laws_pBelow.f kj9 t568 t574).bind fun t606 => (if t606 = true then ((laws_pBelow.f kj9 t569 t574).bind fun t607 => (if t607 = true then ((laws_pSame.f kj9 t596 t592).bind fun t608 => (if t608 = true then ((laws_pSame.f kj9 t600 t592).bind fun t609 => (laws_FnMeetsAndJoins.j1 kj9 t568 t569 t574 t582 (!t609))) else (laws_FnMeetsAndJoins.j1 kj9 t568 t569 t574 t582 true))) else (laws_FnMeetsAndJoins.j1 kj9 t568 t569 t574 t582 true))) else (laws_FnMeetsAndJoins.j1 kj9 t568 t569 t574 t582 true))) else (laws_FnMeetsAndJoins.j1 kj9 t568 t569 t574 t582 true))) else (laws_FnMeetsAndJoins.j1 kj9 t568 t569 t574 t582 true))) else (laws_FnMeetsAndJoins.j1 kj9 t568 t569 t574 t582 true)) else (laws_FnMeetsAndJoins.j1 kj9 t568 t569 t574 t582 true)) = some r := by rw [if_pos rfl] at H; exact H
            clear H; have H := H1; clear H1; by_cases c48 : t597 = true
            · subst c48
              have H1 : (if t601 = true then ((laws_pBelow.f kj9 t582 t568).bind fun t604 => (if t604 = true then ((laws_pBelow.f kj9 t582 t569).bind fun t605 => (if t605 = true then ((laws_pBelow.f kj9 t568 t574).bind fun t606 => (if t606 = true then ((laws_pBelow.f kj9 t569 t574).bind fun t607 => (if t607 = true then ((laws_pSame.f kj9 t596 t592).bind fun t608 => (if t608 = true then ((laws_pSame.f kj9 t600 t592).bind fun t609 => (laws_FnMeetsAndJoins.j1 kj9 t568 t569 t574 t582 (!t609))) else (laws_FnMeetsAndJoins.j1 kj9 t568 t569 t574 t582 true))) else (laws_FnMeetsAndJoins.j1 kj9 t568 t569 t574 t582 true))) else (laws_FnMeetsAndJoins.j1 kj9 t568 t569 t574 t582 true))) else (laws_FnMeetsAndJoins.j1 kj9 t568 t569 t574 t582 true))) else (laws_FnMeetsAndJoins.j1 kj9 t568 t569 t574 t582 true))) else (laws_FnMeetsAndJoins.j1 kj9 t568 t569 t574 t582 true)) = some r := by rw [if_pos rfl] at H; exact H
              clear H; have H := H1; clear H1; by_cases c49 : t601 = true
              · subst c49
                have H1 : ((laws_pBelow.f kj9 t582 t568).bind fun t604 => (if t604 = true then ((laws_pBelow.f kj9 t582 t569).bind fun t605 => (if t605 = true then ((laws_pBelow.f kj9 t568 t574).bind fun t606 => (if t606 = true then ((laws_pBelow.f kj9 t569 t574).bind fun t607 => (if t607 = true then ((laws_pSame.f kj9 t596 t592).bind fun t608 => (if t608 = true then ((laws_pSame.f kj9 t600 t592).bind fun t609 => (laws_FnMeetsAndJoins.j1 kj9 t568 t569 t574 t582 (!t609))) else (laws_FnMeetsAndJoins.j1 kj9 t568 t569 t574 t582 true))) else (laws_FnMeetsAndJoins.j1 kj9 t568 t569 t574 t582 true))) else (laws_FnMeetsAndJoins.j1 kj9 t568 t569 t574 t582 true))) else (laws_FnMeetsAndJoins.j1 kj9 t568 t569 t574 t582 true))) else (laws_FnMeetsAndJoins.j1 kj9 t568 t569 t574 t582 true))) = some r := by rw [if_pos rfl] at H; exact H
                clear H; have H := H1; clear H1; replace H := zay.mp H; obtain ⟨t604, A500, H⟩ := H
                replace H : (if t604 = true then ((laws_pBelow.f kj9 t582 t569).bind fun t605 => (if t605 = true then ((laws_pBelow.f kj9 t568 t574).bind fun t606 => (if t606 = true then ((laws_pBelow.f kj9 t569 t574).bind fun t607 => (if t607 = true then ((laws_pSame.f kj9 t596 t592).bind fun t608 => (if t608 = true then ((laws_pSame.f kj9 t600 t592).bind fun t609 => (laws_FnMeetsAndJoins.j1 kj9 t568 t569 t574 t582 (!t609))) else (laws_FnMeetsAndJoins.j1 kj9 t568 t569 t574 t582 true))) else (laws_FnMeetsAndJoins.j1 kj9 t568 t569 t574 t582 true))) else (laws_FnMeetsAndJoins.j1 kj9 t568 t569 t574 t582 true))) else (laws_FnMeetsAndJoins.j1 kj9 t568 t569 t574 t582 true))) else (laws_FnMeetsAndJoins.j1 kj9 t568 t569 t574 t582 true)) = some r := H
                have A50 := zad A500; clear A500; by_cases c51 : t604 = true
                · subst c51
                  have H1 : ((laws_pBelow.f kj9 t582 t569).bind fun t605 => (if t605 = true then ((laws_pBelow.f kj9 t568 t574).bind fun t606 => (if t606 = true then ((laws_pBelow.f kj9 t569 t574).bind fun t607 => (if t607 = true then ((laws_pSame.f kj9 t596 t592).bind fun t608 => (if t608 = true then ((laws_pSame.f kj9 t600 t592).bind fun t609 => (laws_FnMeetsAndJoins.j1 kj9 t568 t569 t574 t582 (!t609))) else (laws_FnMeetsAndJoins.j1 kj9 t568 t569 t574 t582 true))) else (laws_FnMeetsAndJoins.j1 kj9 t568 t569 t574 t582 true))) else (laws_FnMeetsAndJoins.j1 kj9 t568 t569 t574 t582 true))) else (laws_FnMeetsAndJoins.j1 kj9 t568 t569 t574 t582 true))) = some r := by rw [if_pos rfl] at H; exact H
                  clear H; have H := H1; clear H1; replace H := zay.mp H; obtain ⟨t605, A520, H⟩ := H
                  replace H : (if t605 = true then ((laws_pBelow.f kj9 t568 t574).bind fun t606 => (if t606 = true then ((laws_pBelow.f kj9 t569 t574).bind fun t607 => (if t607 = true then ((laws_pSame.f kj9 t596 t592).bind fun t608 => (if t608 = true then ((laws_pSame.f kj9 t600 t592).bind fun t609 => (laws_FnMeetsAndJoins.j1 kj9 t568 t569 t574 t582 (!t609))) else (laws_FnMeetsAndJoins.j1 kj9 t568 t569 t574 t582 true))) else (laws_FnMeetsAndJoins.j1 kj9 t568 t569 t574 t582 true))) else (laws_FnMeetsAndJoins.j1 kj9 t568 t569 t574 t582 true))) else (laws_FnMeetsAndJoins.j1 kj9 t568 t569 t574 t582 true)) = some r := H
                  have A52 := zad A520; clear A520; by_cases c53 : t605 = true
                  · subst c53
                    have H1 : ((laws_pBelow.f kj9 t568 t574).bind fun t606 => (if t606 = true then ((laws_pBelow.f kj9 t569 t574).bind fun t607 => (if t607 = true then ((laws_pSame.f kj9 t596 t592).bind fun t608 => (if t608 = true then ((laws_pSame.f kj9 t600 t592).bind fun t609 => (laws_FnMeetsAndJoins.j1 kj9 t568 t569 t574 t582 (!t609))) else (laws_FnMeetsAndJoins.j1 kj9 t568 t569 t574 t582 true))) else (laws_FnMeetsAndJoins.j1 kj9 t568 t569 t574 t582 true))) else (laws_FnMeetsAndJoins.j1 kj9 t568 t569 t574 t582 true))) = some r := by rw [if_pos rfl] at H; exact H
                    clear H; have H := H1; clear H1; replace H := zay.mp H; obtain ⟨t606, A540, H⟩ := H
                    replace H : (if t606 = true then ((laws_pBelow.f kj9 t569 t574).bind fun t607 => (if t607 = true then ((laws_pSame.f kj9 t596 t592).bind fun t608 => (if t608 = true then ((laws_pSame.f kj9 t600 t592).bind fun t609 => (laws_FnMeetsAndJoins.j1 kj9 t568 t569 t574 t582 (!t609))) else (laws_FnMeetsAndJoins.j1 kj9 t568 t569 t574 t582 true))) else (laws_FnMeetsAndJoins.j1 kj9 t568 t569 t574 t582 true))) else (laws_FnMeetsAndJoins.j1 kj9 t568 t569 t574 t582 true)) = some r := H
                    have A54 := zad A540; clear A540; by_cases c55 : t606 = true
                    · subst c55
                      have H1 : ((laws_pBelow.f kj9 t569 t574).bind fun t607 => (if t607 = true then ((laws_pSame.f kj9 t596 t592).bind fun t608 => (if t608 = true then ((laws_pSame.f kj9 t600 t592).bind fun t609 => (laws_FnMeetsAndJoins.j1 kj9 t568 t569 t574 t582 (!t609))) else (laws_FnMeetsAndJoins.j1 kj9 t568 t569 t574 t582 true))) else (laws_FnMeetsAndJoins.j1 kj9 t568 t569 t574 t582 true))) = some r := by rw [if_pos rfl] at H; exact H
                      clear H; have H := H1; clear H1; replace H := zay.mp H; obtain ⟨t607, A560, H⟩ := H
                      replace H : (if t607 = true then ((laws_pSame.f kj9 t596 t592).bind fun t608 => (if t608 = true then ((laws_pSame.f kj9 t600 t592).bind fun t609 => (laws_FnMeetsAndJoins.j1 kj9 t568 t569 t574 t582 (!t609))) else (laws_FnMeetsAndJoins.j1 kj9 t568 t569 t574 t582 true))) else (laws_FnMeetsAndJoins.j1 kj9 t568 t569 t574 t582 true)) = some r := H
                      have A56 := zad A560; clear A560; by_cases c57 : t607 = true
                      · subst c57
                        have H1 : ((laws_pSame.f kj9 t596 t592).bind fun t608 => (if t608 = true then ((laws_pSame.f kj9 t600 t592).bind fun t609 => (laws_FnMeetsAndJoins.j1 kj9 t568 t569 t574 t582 (!t609))) else (laws_FnMeetsAndJoins.j1 kj9 t568 t569 t574 t582 true))) = some r := by rw [if_pos rfl] at H; exact H
                        clear H; have H := H1; clear H1; replace H := zay.mp H; obtain ⟨t608, A580, H⟩ := H
                        replace H : (if t608 = true then ((laws_pSame.f kj9 t600 t592).bind fun t609 => (laws_FnMeetsAndJoins.j1 kj9 t568 t569 t574 t582 (!t609))) else (laws_FnMeetsAndJoins.j1 kj9 t568 t569 t574 t582 true)) = some r := H
                        have A58 := zad A580; clear A580; by_cases c59 : t608 = true
                        · subst c59
                          have H1 : ((laws_pSame.f kj9 t600 t592).bind fun t609 => (laws_FnMeetsAndJoins.j1 kj9 t568 t569 t574 t582 (!t609))) = some r := by rw [if_pos rfl] at H; exact H
                          clear H; have H := H1; clear H1; replace H := zay.mp H; obtain ⟨t609, A600, H⟩ := H
                          replace H : (laws_FnMeetsAndJoins.j1 kj9 t568 t569 t574 t582 (!t609)) = some r := H
                          have A60 := zad A600; clear A600; have H' := zad H
                          clear H; go_wp2_with (first | (go_at_call 22; (with_reducible refine (zck kj9 _ _ t582 _ _ t568 true _ ?side1 ?side2 ?side3 ?side4 A50.out).mono ?_); (case side1 => repeat (first | exact (zbd HO_11.out).2.2 | (with_reducible refine zal ?_ _) | (with_reducible refine zam ?_ _) | (with_reducible refine zan ?_))); (case side2 => exact (zbd HO_11.out).2.1); (case side3 => repeat (first | exact (zbd HO_5.out).2.2 | (with_reducible refine zal ?_ _) | (with_reducible refine zam ?_ _) | (with_reducible refine zan ?_))); (case side4 => exact (zbd HO_5.out).2.1); rintro e w61 ⟨rfl, hb⟩; have n0_ := zad (zbr (taaf) hb); have n1_ := zad (zbr (taae) hb); have n2_ := zad (zbr (taag) hb); have n3_ := zad (zbr (taaj) hb); have n4_ := zad (zbr (taas) hb); have n5_ := zad (zbr (taat) hb); have n6_ := zad (zbr (taav) hb); have n7_ := zad (zbe (taaa) hb); clear HO_5 HO_6 HO_7 HO_11 HO595 HO599 HO603 HB; have HO_5 := n0_; have HO_6 := n1_; have HO_7 := n2_; have HO_11 := n3_; have HO595 := n4_; have HO599 := n5_; have HO603 := n6_; have HB := n7_; clear n0_ n1_ n2_ n3_ n4_ n5_ n6_ n7_; (try clear hb); (try clear hb2); (try clear hk); (try clear hi)) | (go_at_call 22; (with_reducible refine (zck kj9 _ _ t582 _ _ t569 true _ ?side1 ?side2 ?side3 ?side4 A52.out).mono ?_); (case side1 => repeat (first | exact (zbd HO_11.out).2.2 | (with_reducible refine zal ?_ _) | (with_reducible refine zam ?_ _) | (with_reducible refine zan ?_))); (case side2 => exact (zbd HO_11.out).2.1); (case side3 => repeat (first | exact (zbd HO_6.out).2.2 | (with_reducible refine zal ?_ _) | (with_reducible refine zam ?_ _) | (with_reducible refine zan ?_))); (case side4 => exact (zbd HO_6.out).2.1); rintro e w62 ⟨rfl, hb⟩; have n0_ := zad (zbr (taaf) hb); have n1_ := zad (zbr (taae) hb); have n2_ := zad (zbr (taag) hb); have n3_ := zad (zbr (taaj) hb); have n4_ := zad (zbr (taas) hb); have n5_ := zad (zbr (taat) hb); have n6_ := zad (zbr (taav) hb); have n7_ := zad (zbe (taaa) hb); clear HO_5 HO_6 HO_7 HO_11 HO595 HO599 HO603 HB; have HO_5 := n0_; have HO_6 := n1_; have HO_7 := n2_; have HO_11 := n3_; have HO595 := n4_; have HO599 := n5_; have HO603 := n6_; have HB := n7_; clear n0_ n1_ n2_ n3_ n4_ n5_ n6_ n7_; (try clear hb); (try clear hb2); (try clear hk); (try clear hi)) | (go_at_call 22; (with_reducible refine (zck kj9 _ _ t568 _ _ t574 true _ ?side1 ?side2 ?side3 ?side4 A54.out).mono ?_); (case side1 => repeat (first | exact (zbd HO_5.out).2.2 | (with_reducible refine zal ?_ _) | (with_reducible refine zam ?_ _) | (with_reducible refine zan ?_))); (case side2 => exact (zbd HO_5.out).2.1); (case side3 => repeat (first | exact (zbd HO_7.out).2.2 | (with_reducible refine zal ?_ _) | (with_reducible refine zam ?_ _) | (with_reducible refine zan ?_))); (case side4 => exact (zbd HO_7.out).2.1); rintro e w63 ⟨rfl, hb⟩; have n0_ := zad (zbr (taaf) hb); have n1_ := zad (zbr (taae) hb); have n2_ := zad (zbr (taag) hb); have n3_ := zad (zbr (taaj) hb); have n4_ := zad (zbr (taas) hb); have n5_ := zad (zbr (taat) hb); have n6_ := zad (zbr (taav) hb); have n7_ := zad (zbe (taaa) hb); clear HO_5 HO_6 HO_7 HO_11 HO595 HO599 HO603 HB; have HO_5 := n0_; have HO_6 := n1_; have HO_7 := n2_; have HO_11 := n3_; have HO595 := n4_; have HO599 := n5_; have HO603 := n6_; have HB := n7_; clear n0_ n1_ n2_ n3_ n4_ n5_ n6_ n7_; (try clear hb); (try clear hb2); (try clear hk); (try clear hi)) | (go_at_call 22; (with_reducible refine (zck kj9 _ _ t569 _ _ t574 true _ ?side1 ?side2 ?side3 ?side4 A56.out).mono ?_); (case side1 => repeat (first | exact (zbd HO_6.out).2.2 | (with_reducible refine zal ?_ _) | (with_reducible refine zam ?_ _) | (with_reducible refine zan ?_))); (case side2 => exact (zbd HO_6.out).2.1); (case side3 => repeat (first | exact (zbd HO_7.out).2.2 | (with_reducible refine zal ?_ _) | (with_reducible refine zam ?_ _) | (with_reducible refine zan ?_))); (case side4 => exact (zbd HO_7.out).2.1); rintro e w64 ⟨rfl, hb⟩; have n0_ := zad (zbr (taaf) hb); have n1_ := zad (zbr (taae) hb); have n2_ := zad (zbr (taag) hb); have n3_ := zad (zbr (taaj) hb); have n4_ := zad (zbr (taas) hb); have n5_ := zad (zbr (taat) hb); have n6_ := zad (zbr (taav) hb); have n7_ := zad (zbe (taaa) hb); clear HO_5 HO_6 HO_7 HO_11 HO595 HO599 HO603 HB; have HO_5 := n0_; have HO_6 := n1_; have HO_7 := n2_; have HO_11 := n3_; have HO595 := n4_; have HO599 := n5_; have HO603 := n6_; have HB := n7_; clear n0_ n1_ n2_ n3_ n4_ n5_ n6_ n7_; (try clear hb); (try clear hb2); (try clear hk); (try clear hi); obtain ⟨Ao65, co65, eo65⟩ := zbt HO599.out; subst eo65; obtain ⟨Ao66, co66, eo66⟩ := zbt HO595.out; subst eo66) | (go_at_call 20; (with_reducible refine (laws_pSame.calls kj9 _ _ t596 _ _ t592 true _ ?side1 ?side2 ?side3 ?side4 A58.out).mono ?_); (case side1 => repeat (first | exact (zbd HO599.out).2.2 | (with_reducible refine zal ?_ _) | (with_reducible refine zam ?_ _) | (with_reducible refine zan ?_))); (case side2 => exact (zbd HO599.out).2.1); (case side3 => repeat (first | exact (zbd HO595.out).2.2 | (with_reducible refine zal ?_ _) | (with_reducible refine zam ?_ _) | (with_reducible refine zan ?_))); (case side4 => exact (zbd HO595.out).2.1); rintro e w' ⟨rfl, ⟨nd, rfl⟩⟩; obtain ⟨Ao67, co67, eo67⟩ := zbt HO603.out; subst eo67) | (go_at_call 20; (with_reducible refine (laws_pSame.calls kj9 _ _ t600 _ _ t592 t609 _ ?side1 ?side2 ?side3 ?side4 A60.out).mono ?_); (case side1 => repeat (first | exact (zbd HO603.out).2.2 | (with_reducible refine zal ?_ _) | (with_reducible refine zam ?_ _) | (with_reducible refine zan ?_))); (case side2 => exact (zbd HO603.out).2.1); (case side3 => repeat (first | exact (zbd HO595.out).2.2 | (with_reducible refine zal ?_ _) | (with_reducible refine zam ?_ _) | (with_reducible refine zan ?_))); (case side4 => exact (zbd HO595.out).2.1); rintro e w' ⟨rfl, ⟨nd, rfl⟩⟩))
                          go_meet
                          case rel => exact ⟨_, (!t609), (taad), H', ⟨tabc⟩, ⟨tabd⟩, ⟨tabe⟩, ⟨tabf⟩, ⟨tabg⟩, ⟨taaa⟩⟩
                        · replace c59 := zbg.mpr c59
                          subst c59; have H1 : (laws_FnMeetsAndJoins.j1 kj9 t568 t569 t574 t582 true) = some r := by rw [if_neg (show ¬ (false = true) by decide)] at H; exact H
                          clear H; have H := H1; clear H1; have H' := zad H
                          clear H; go_wp2_with (first | (go_at_call 22; (with_reducible refine (zck kj9 _ _ t582 _ _ t568 true _ ?side1 ?side2 ?side3 ?side4 A50.out).mono ?_); (case side1 => repeat (first | exact (zbd HO_11.out).2.2 | (with_reducible refine zal ?_ _) | (with_reducible refine zam ?_ _) | (with_reducible refine zan ?_))); (case side2 => exact (zbd HO_11.out).2.1); (case side3 => repeat (first | exact (zbd HO_5.out).2.2 | (with_reducible refine zal ?_ _) | (with_reducible refine zam ?_ _) | (with_reducible refine zan ?_))); (case side4 => exact (zbd HO_5.out).2.1); rintro e w68 ⟨rfl, hb⟩; have n0_ := zad (zbr (taaf) hb); have n1_ := zad (zbr (taae) hb); have n2_ := zad (zbr (taag) hb); have n3_ := zad (zbr (taaj) hb); have n4_ := zad (zbr (taas) hb); have n5_ := zad (zbr (taat) hb); have n6_ := zad (zbr (taav) hb); have n7_ := zad (zbe (taaa) hb); clear HO_5 HO_6 HO_7 HO_11 HO595 HO599 HO603 HB; have HO_5 := n0_; have HO_6 := n1_; have HO_7 := n2_; have HO_11 := n3_; have HO595 := n4_; have HO599 := n5_; have HO603 := n6_; have HB := n7_; clear n0_ n1_ n2_ n3_ n4_ n5_ n6_ n7_; (try clear hb); (try clear hb2); (try clear hk); (try clear hi)) | (go_at_call 22; (with_reducible refine (zck kj9 _ _ t582 _ _ t569 true _ ?side1 ?side2 ?side3 ?side4 A52.out).mono ?_); (case side1 => repeat (first | exact (zbd HO_11.out).2.2 | (with_reducible refine zal ?_ _) | (with_reducible refine zam ?_ _) | (with_reducible refine zan ?_))); (case side2 => exact (zbd HO_11.out).2.1); (case side3 => repeat (first | exact (zbd HO_6.out).2.2 | (with_reducible refine zal ?_ _) | (with_reducible refine zam ?_ _) | (with_reducible refine zan ?_))); (case side4 => exact (zbd HO_6.out).2.1); rintro e w69 ⟨rfl, hb⟩; have n0_ := zad (zbr (taaf) hb); have n1_ := zad (zbr (taae) hb); have n2_ := zad (zbr (taag) hb); have n3_ := zad (zbr (taaj) hb); have n4_ := zad (zbr (taas) hb); have n5_ := zad (zbr (taat) hb); have n6_ := zad (zbr (taav) hb); have n7_ := zad (zbe (taaa) hb); clear HO_5 HO_6 HO_7 HO_11 HO595 HO599 HO603 HB; have HO_5 := n0_; have HO_6 := n1_; have HO_7 := n2_; have HO_11 := n3_; have HO595 := n4_; have HO599 := n5_; have HO603 := n6_; have HB := n7_; clear n0_ n1_ n2_ n3_ n4_ n5_ n6_ n7_; (try clear hb); (try clear hb2); (try clear hk); (try clear hi)) | (go_at_call 22; (with_reducible refine (zck kj9 _ _ t568 _ _ t574 true _ ?side1 ?side2 ?side3 ?side4 A54.out).mono ?_); (case side1 => repeat (first | exact (zbd HO_5.out).2.2 | (with_reducible refine zal ?_ _) | (with_reducible refine zam ?_ _) | (with_reducible refine zan ?_))); (case side2 => exact (zbd HO_5.out).2.1); (case side3 => repeat (first | exact (zbd HO_7.out).2.2 | (with_reducible refine zal ?_ _) | (with_reducible refine zam ?_ _) | (with_reducible refine zan ?_))); (case side4 => exact (zbd HO_7.out).2.1); rintro e w70 ⟨rfl, hb⟩; have n0_ := zad (zbr (taaf) hb); have n1_ := zad (zbr (taae) hb); have n2_ := zad (zbr (taag) hb); have n3_ := zad (zbr (taaj) hb); have n4_ := zad (zbr (taas) hb); have n5_ := zad (zbr (taat) hb); have n6_ := zad (zbr (taav) hb); have n7_ := zad (zbe (taaa) hb); clear HO_5 HO_6 HO_7 HO_11 HO595 HO599 HO603 HB; have HO_5 := n0_; have HO_6 := n1_; have HO_7 := n2_; have HO_11 := n3_; have HO595 := n4_; have HO599 := n5_; have HO603 := n6_; have HB := n7_; clear n0_ n1_ n2_ n3_ n4_ n5_ n6_ n7_; (try clear hb); (try clear hb2); (try clear hk); (try clear hi)) | (go_at_call 22; (with_reducible refine (zck kj9 _ _ t569 _ _ t574 true _ ?side1 ?side2 ?side3 ?side4 A56.out).mono ?_); (case side1 => repeat (first | exact (zbd HO_6.out).2.2 | (with_reducible refine zal ?_ _) | (with_reducible refine zam ?_ _) | (with_reducible refine zan ?_))); (case side2 => exact (zbd HO_6.out).2.1); (case side3 => repeat (first | exact (zbd HO_7.out).2.2 | (with_reducible refine zal ?_ _) | (with_reducible refine zam ?_ _) | (with_reducible refine zan ?_))); (case side4 => exact (zbd HO_7.out).2.1); rintro e w71 ⟨rfl, hb⟩; have n0_ := zad (zbr (taaf) hb); have n1_ := zad (zbr (taae) hb); have n2_ := zad (zbr (taag) hb); have n3_ := zad (zbr (taaj) hb); have n4_ := zad (zbr (taas) hb); have n5_ := zad (zbr (taat) hb); have n6_ := zad (zbr (taav) hb); have n7_ := zad (zbe (taaa) hb); clear HO_5 HO_6 HO_7 HO_11 HO595 HO599 HO603 HB; have HO_5 := n0_; have HO_6 := n1_; have HO_7 := n2_; have HO_11 := n3_; have HO595 := n4_; have HO599 := n5_; have HO603 := n6_; have HB := n7_; clear n0_ n1_ n2_ n3_ n4_ n5_ n6_ n7_; (try clear hb); (try clear hb2); (try clear hk); (try clear hi); obtain ⟨Ao72, co72, eo72⟩ := zbt HO599.out; subst eo72; obtain ⟨Ao73, co73, eo73⟩ := zbt HO595.out; subst eo73) | (go_at_call 20; (with_reducible refine (laws_pSame.calls kj9 _ _ t596 _ _ t592 false _ ?side1 ?side2 ?side3 ?side4 A58.out).mono ?_); (case side1 => repeat (first | exact (zbd HO599.out).2.2 | (with_reducible refine zal ?_ _) | (with_reducible refine zam ?_ _) | (with_reducible refine zan ?_))); (case side2 => exact (zbd HO599.out).2.1); (case side3 => repeat (first | exact (zbd HO595.out).2.2 | (with_reducible refine zal ?_ _) | (with_reducible refine zam ?_ _) | (with_reducible refine zan ?_))); (case side4 => exact (zbd HO595.out).2.1); rintro e w' ⟨rfl, ⟨nd, rfl⟩⟩))
                          go_meet
                          case rel => exact ⟨_, (true), (taad), H', ⟨tabc⟩, ⟨tabd⟩, ⟨tabe⟩, ⟨tabf⟩, ⟨tabg⟩, ⟨taaa⟩⟩
                      · replace c57 := zbg.mpr c57
                        subst c57; have H1 : (laws_FnMeetsAndJoins.j1 kj9 t568 t569 t574 t582 true) = some r := by rw [if_neg (show ¬ (false = true) by decide)] at H; exact H
                        clear H; have H := H1; clear H1; have H' := zad H
                        clear H; go_wp2_with (first | (go_at_call 22; (with_reducible refine (zck kj9 _ _ t582 _ _ t568 true _ ?side1 ?side2 ?side3 ?side4 A50.out).mono ?_); (case side1 => repeat (first | exact (zbd HO_11.out).2.2 | (with_reducible refine zal ?_ _) | (with_reducible refine zam ?_ _) | (with_reducible refine zan ?_))); (case side2 => exact (zbd HO_11.out).2.1); (case side3 => repeat (first | exact (zbd HO_5.out).2.2 | (with_reducible refine zal ?_ _) | (with_reducible refine zam ?_ _) | (with_reducible refine zan ?_))); (case side4 => exact (zbd HO_5.out).2.1); rintro e w74 ⟨rfl, hb⟩; have n0_ := zad (zbr (taaf) hb); have n1_ := zad (zbr (taae) hb); have n2_ := zad (zbr (taag) hb); have n3_ := zad (zbr (taaj) hb); have n4_ := zad (zbr (taas) hb); have n5_ := zad (zbr (taat) hb); have n6_ := zad (zbr (taav) hb); have n7_ := zad (zbe (taaa) hb); clear HO_5 HO_6 HO_7 HO_11 HO595 HO599 HO603 HB; have HO_5 := n0_; have HO_6 := n1_; have HO_7 := n2_; have HO_11 := n3_; have HO595 := n4_; have HO599 := n5_; have HO603 := n6_; have HB := n7_; clear n0_ n1_ n2_ n3_ n4_ n5_ n6_ n7_; (try clear hb); (try clear hb2); (try clear hk); (try clear hi)) | (go_at_call 22; (with_reducible refine (zck kj9 _ _ t582 _ _ t569 true _ ?side1 ?side2 ?side3 ?side4 A52.out).mono ?_); (case side1 => repeat (first | exact (zbd HO_11.out).2.2 | (with_reducible refine zal ?_ _) | (with_reducible refine zam ?_ _) | (with_reducible refine zan ?_))); (case side2 => exact (zbd HO_11.out).2.1); (case side3 => repeat (first | exact (zbd HO_6.out).2.2 | (with_reducible refine zal ?_ _) | (with_reducible refine zam ?_ _) | (with_reducible refine zan ?_))); (case side4 => exact (zbd HO_6.out).2.1); rintro e w75 ⟨rfl, hb⟩; have n0_ := zad (zbr (taaf) hb); have n1_ := zad (zbr (taae) hb); have n2_ := zad (zbr (taag) hb); have n3_ := zad (zbr (taaj) hb); have n4_ := zad (zbr (taas) hb); have n5_ := zad (zbr (taat) hb); have n6_ := zad (zbr (taav) hb); have n7_ := zad (zbe (taaa) hb); clear HO_5 HO_6 HO_7 HO_11 HO595 HO599 HO603 HB; have HO_5 := n0_; have HO_6 := n1_; have HO_7 := n2_; have HO_11 := n3_; have HO595 := n4_; have HO599 := n5_; have HO603 := n6_; have HB := n7_; clear n0_ n1_ n2_ n3_ n4_ n5_ n6_ n7_; (try clear hb); (try clear hb2); (try clear hk); (try clear hi)) | (go_at_call 22; (with_reducible refine (zck kj9 _ _ t568 _ _ t574 true _ ?side1 ?side2 ?side3 ?side4 A54.out).mono ?_); (case side1 => repeat (first | exact (zbd HO_5.out).2.2 | (with_reducible refine zal ?_ _) | (with_reducible refine zam ?_ _) | (with_reducible refine zan ?_))); (case side2 => exact (zbd HO_5.out).2.1); (case side3 => repeat (first | exact (zbd HO_7.out).2.2 | (with_reducible refine zal ?_ _) | (with_reducible refine zam ?_ _) | (with_reducible refine zan ?_))); (case side4 => exact (zbd HO_7.out).2.1); rintro e w76 ⟨rfl, hb⟩; have n0_ := zad (zbr (taaf) hb); have n1_ := zad (zbr (taae) hb); have n2_ := zad (zbr (taag) hb); have n3_ := zad (zbr (taaj) hb); have n4_ := zad (zbr (taas) hb); have n5_ := zad (zbr (taat) hb); have n6_ := zad (zbr (taav) hb); have n7_ := zad (zbe (taaa) hb); clear HO_5 HO_6 HO_7 HO_11 HO595 HO599 HO603 HB; have HO_5 := n0_; have HO_6 := n1_; have HO_7 := n2_; have HO_11 := n3_; have HO595 := n4_; have HO599 := n5_; have HO603 := n6_; have HB := n7_; clear n0_ n1_ n2_ n3_ n4_ n5_ n6_ n7_; (try clear hb); (try clear hb2); (try clear hk); (try clear hi)) | (go_at_call 22; (with_reducible refine (zck kj9 _ _ t569 _ _ t574 false _ ?side1 ?side2 ?side3 ?side4 A56.out).mono ?_); (case side1 => repeat (first | exact (zbd HO_6.out).2.2 | (with_reducible refine zal ?_ _) | (with_reducible refine zam ?_ _) | (with_reducible refine zan ?_))); (case side2 => exact (zbd HO_6.out).2.1); (case side3 => repeat (first | exact (zbd HO_7.out).2.2 | (with_reducible refine zal ?_ _) | (with_reducible refine zam ?_ _) | (with_reducible refine zan ?_))); (case side4 => exact (zbd HO_7.out).2.1); rintro e w77 ⟨rfl, hb⟩; have n0_ := zad (zbr (taaf) hb); have n1_ := zad (zbr (taae) hb); have n2_ := zad (zbr (taag) hb); have n3_ := zad (zbr (taaj) hb); have n4_ := zad (zbr (taas) hb); have n5_ := zad (zbr (taat) hb); have n6_ := zad (zbr (taav) hb); have n7_ := zad (zbe (taaa) hb); clear HO_5 HO_6 HO_7 HO_11 HO595 HO599 HO603 HB; have HO_5 := n0_; have HO_6 := n1_; have HO_7 := n2_; have HO_11 := n3_; have HO595 := n4_; have HO599 := n5_; have HO603 := n6_; have HB := n7_; clear n0_ n1_ n2_ n3_ n4_ n5_ n6_ n7_; (try clear hb); (try clear hb2); (try clear hk); (try clear hi)))
                        go_meet
                        case rel => exact ⟨_, (true), (taad), H', ⟨tabc⟩, ⟨tabd⟩, ⟨tabe⟩, ⟨tabf⟩, ⟨tabg⟩, ⟨taaa⟩⟩
                    · replace c55 := zbg.mpr c55
                      subst c55; have H1 : (laws_FnMeetsAndJoins.j1 kj9 t568 t569 t574 t582 true) = some r := by rw [if_neg (show ¬ (false = true) by decide)] at H; exact H
                      clear H; have H := H1; clear H1; have H' := zad H
                      clear H; go_wp2_with (first | (go_at_call 22; (with_reducible refine (zck kj9 _ _ t582 _ _ t568 true _ ?side1 ?side2 ?side3 ?side4 A50.out).mono ?_); (case side1 => repeat (first | exact (zbd HO_11.out).2.2 | (with_reducible refine zal ?_ _) | (with_reducible refine zam ?_ _) | (with_reducible refine zan ?_))); (case side2 => exact (zbd HO_11.out).2.1); (case side3 => repeat (first | exact (zbd HO_5.out).2.2 | (with_reducible refine zal ?_ _) | (with_reducible refine zam ?_ _) | (with_reducible refine zan ?_))); (case side4 => exact (zbd HO_5.out).2.1); rintro e w78 ⟨rfl, hb⟩; have n0_ := zad (zbr (taaf) hb); have n1_ := zad (zbr (taae) hb); have n2_ := zad (zbr (taag) hb); have n3_ := zad (zbr (taaj) hb); have n4_ := zad (zbr (taas) hb); have n5_ := zad (zbr (taat) hb); have n6_ := zad (zbr (taav) hb); have n7_ := zad (zbe (taaa) hb); clear HO_5 HO_6 HO_7 HO_11 HO595 HO599 HO603 HB; have HO_5 := n0_; have HO_6 := n1_; have HO_7 := n2_; have HO_11 := n3_; have HO595 := n4_; have HO599 := n5_; have HO603 := n6_; have HB := n7_; clear n0_ n1_ n2_ n3_ n4_ n5_ n6_ n7_; (try clear hb); (try clear hb2); (try clear hk); (try clear hi)) | (go_at_call 22; (with_reducible refine (zck kj9 _ _ t582 _ _ t569 true _ ?side1 ?side2 ?side3 ?side4 A52.out).mono ?_); (case side1 => repeat (first | exact (zbd HO_11.out).2.2 | (with_reducible refine zal ?_ _) | (with_reducible refine zam ?_ _) | (with_reducible refine zan ?_))); (case side2 => exact (zbd HO_11.out).2.1); (case side3 => repeat (first | exact (zbd HO_6.out).2.2 | (with_reducible refine zal ?_ _) | (with_reducible refine zam ?_ _) | (with_reducible refine zan ?_))); (case side4 => exact (zbd HO_6.out).2.1); rintro e w79 ⟨rfl, hb⟩; have n0_ := zad (zbr (taaf) hb); have n1_ := zad (zbr (taae) hb); have n2_ := zad (zbr (taag) hb); have n3_ := zad (zbr (taaj) hb); have n4_ := zad (zbr (taas) hb); have n5_ := zad (zbr (taat) hb); have n6_ := zad (zbr (taav) hb); have n7_ := zad (zbe (taaa) hb); clear HO_5 HO_6 HO_7 HO_11 HO595 HO599 HO603 HB; have HO_5 := n0_; have HO_6 := n1_; have HO_7 := n2_; have HO_11 := n3_; have HO595 := n4_; have HO599 := n5_; have HO603 := n6_; have HB := n7_; clear n0_ n1_ n2_ n3_ n4_ n5_ n6_ n7_; (try clear hb); (try clear hb2); (try clear hk); (try clear hi)) | (go_at_call 22; (with_reducible refine (zck kj9 _ _ t568 _ _ t574 false _ ?side1 ?side2 ?side3 ?side4 A54.out).mono ?_); (case side1 => repeat (first | exact (zbd HO_5.out).2.2 | (with_reducible refine zal ?_ _) | (with_reducible refine zam ?_ _) | (with_reducible refine zan ?_))); (case side2 => exact (zbd HO_5.out).2.1); (case side3 => repeat (first | exact (zbd HO_7.out).2.2 | (with_reducible refine zal ?_ _) | (with_reducible refine zam ?_ _) | (with_reducible refine zan ?_))); (case side4 => exact (zbd HO_7.out).2.1); rintro e w80 ⟨rfl, hb⟩; have n0_ := zad (zbr (taaf) hb); have n1_ := zad (zbr (taae) hb); have n2_ := zad (zbr (taag) hb); have n3_ := zad (zbr (taaj) hb); have n4_ := zad (zbr (taas) hb); have n5_ := zad (zbr (taat) hb); have n6_ := zad (zbr (taav) hb); have n7_ := zad (zbe (taaa) hb); clear HO_5 HO_6 HO_7 HO_11 HO595 HO599 HO603 HB; have HO_5 := n0_; have HO_6 := n1_; have HO_7 := n2_; have HO_11 := n3_; have HO595 := n4_; have HO599 := n5_; have HO603 := n6_; have HB := n7_; clear n0_ n1_ n2_ n3_ n4_ n5_ n6_ n7_; (try clear hb); (try clear hb2); (try clear hk); (try clear hi)))
                      go_meet
                      case rel => exact ⟨_, (true), (taad), H', ⟨tabc⟩, ⟨tabd⟩, ⟨tabe⟩, ⟨tabf⟩, ⟨tabg⟩, ⟨taaa⟩⟩
                  · replace c53 := zbg.mpr c53
                    subst c53; have H1 : (laws_FnMeetsAndJoins.j1 kj9 t568 t569 t574 t582 true) = some r := by rw [if_neg (show ¬ (false = true) by decide)] at H; exact H
                    clear H; have H := H1; clear H1; have H' := zad H
                    clear H; go_wp2_with (first | (go_at_call 22; (with_reducible refine (zck kj9 _ _ t582 _ _ t568 true _ ?side1 ?side2 ?side3 ?side4 A50.out).mono ?_); (case side1 => repeat (first | exact (zbd HO_11.out).2.2 | (with_reducible refine zal ?_ _) | (with_reducible refine zam ?_ _) | (with_reducible refine zan ?_))); (case side2 => exact (zbd HO_11.out).2.1); (case side3 => repeat (first | exact (zbd HO_5.out).2.2 | (with_reducible refine zal ?_ _) | (with_reducible refine zam ?_ _) | (with_reducible refine zan ?_))); (case side4 => exact (zbd HO_5.out).2.1); rintro e w81 ⟨rfl, hb⟩; have n0_ := zad (zbr (taaf) hb); have n1_ := zad (zbr (taae) hb); have n2_ := zad (zbr (taag) hb); have n3_ := zad (zbr (taaj) hb); have n4_ := zad (zbr (taas) hb); have n5_ := zad (zbr (taat) hb); have n6_ := zad (zbr (taav) hb); have n7_ := zad (zbe (taaa) hb); clear HO_5 HO_6 HO_7 HO_11 HO595 HO599 HO603 HB; have HO_5 := n0_; have HO_6 := n1_; have HO_7 := n2_; have HO_11 := n3_; have HO595 := n4_; have HO599 := n5_; have HO603 := n6_; have HB := n7_; clear n0_ n1_ n2_ n3_ n4_ n5_ n6_ n7_; (try clear hb); (try clear hb2); (try clear hk); (try clear hi)) | (go_at_call 22; (with_reducible refine (zck kj9 _ _ t582 _ _ t569 false _ ?side1 ?side2 ?side3 ?side4 A52.out).mono ?_); (case side1 => repeat (first | exact (zbd HO_11.out).2.2 | (with_reducible refine zal ?_ _) | (with_reducible refine zam ?_ _) | (with_reducible refine zan ?_))); (case side2 => exact (zbd HO_11.out).2.1); (case side3 => repeat (first | exact (zbd HO_6.out).2.2 | (with_reducible refine zal ?_ _) | (with_reducible refine zam ?_ _) | (with_reducible refine zan ?_))); (case side4 => exact (zbd HO_6.out).2.1); rintro e w82 ⟨rfl, hb⟩; have n0_ := zad (zbr (taaf) hb); have n1_ := zad (zbr (taae) hb); have n2_ := zad (zbr (taag) hb); have n3_ := zad (zbr (taaj) hb); have n4_ := zad (zbr (taas) hb); have n5_ := zad (zbr (taat) hb); have n6_ := zad (zbr (taav) hb); have n7_ := zad (zbe (taaa) hb); clear HO_5 HO_6 HO_7 HO_11 HO595 HO599 HO603 HB; have HO_5 := n0_; have HO_6 := n1_; have HO_7 := n2_; have HO_11 := n3_; have HO595 := n4_; have HO599 := n5_; have HO603 := n6_; have HB := n7_; clear n0_ n1_ n2_ n3_ n4_ n5_ n6_ n7_; (try clear hb); (try clear hb2); (try clear hk); (try clear hi)))
                    go_meet
                    case rel => exact ⟨_, (true), (taad), H', ⟨tabc⟩, ⟨tabd⟩, ⟨tabe⟩, ⟨tabf⟩, ⟨tabg⟩, ⟨taaa⟩⟩
                · replace c51 := zbg.mpr c51
                  subst c51; have H1 : (laws_FnMeetsAndJoins.j1 kj9 t568 t569 t574 t582 true) = some r := by rw [if_neg (show ¬ (false = true) by decide)] at H; exact H
                  clear H; have H := H1; clear H1; have H' := zad H
                  clear H; go_wp2_with (first | (go_at_call 22; (with_reducible refine (zck kj9 _ _ t582 _ _ t568 false _ ?side1 ?side2 ?side3 ?side4 A50.out).mono ?_); (case side1 => repeat (first | exact (zbd HO_11.out).2.2 | (with_reducible refine zal ?_ _) | (with_reducible refine zam ?_ _) | (with_reducible refine zan ?_))); (case side2 => exact (zbd HO_11.out).2.1); (case side3 => exact taex); (case side4 => exact (zbd HO_5.out).2.1); rintro e w83 ⟨rfl, hb⟩; have n0_ := zad (zbr (taaf) hb); have n1_ := zad (zbr (taae) hb); have n2_ := zad (zbr (taag) hb); have n3_ := zad (zbr (taaj) hb); have n4_ := zad (zbr (taas) hb); have n5_ := zad (zbr (taat) hb); have n6_ := zad (zbr (taav) hb); have n7_ := zad (zbe (taaa) hb); clear HO_5 HO_6 HO_7 HO_11 HO595 HO599 HO603 HB; have HO_5 := n0_; have HO_6 := n1_; have HO_7 := n2_; have HO_11 := n3_; have HO595 := n4_; have HO599 := n5_; have HO603 := n6_; have HB := n7_; clear n0_ n1_ n2_ n3_ n4_ n5_ n6_ n7_; (try clear hb); (try clear hb2); (try clear hk); (try clear hi)))
                  go_meet
                  case rel => exact ⟨_, (true), (taad), H', ⟨tabc⟩, ⟨tabd⟩, ⟨tabe⟩, ⟨tabf⟩, ⟨tabg⟩, ⟨taaa⟩⟩
              · replace c49 := zbg.mpr c49
                subst c49; have H1 : (laws_FnMeetsAndJoins.j1 kj9 t568 t569 t574 t582 true) = some r := by rw [if_neg (show ¬ (false = true) by decide)] at H; exact H
                clear H; have H := H1; clear H1; have H' := zad H
                clear H; go_wp2
                go_meet
                case rel => exact ⟨_, (true), (taad), H', ⟨tabc⟩, ⟨tabd⟩, ⟨tabe⟩, ⟨tabf⟩, ⟨tabg⟩, ⟨taaa⟩⟩
            · replace c48 := zbg.mpr c48
              subst c48; have H1 : (laws_FnMeetsAndJoins.j1 kj9 t568 t569 t574 t582 true) = some r := by rw [if_neg (show ¬ (false = true) by decide)] at H; exact H
              clear H; have H := H1; clear H1; have H' := zad H
              clear H; go_wp2
              go_meet
              case rel => exact ⟨_, (true), (taad), H', ⟨tabc⟩, ⟨tabd⟩, ⟨tabe⟩, ⟨tabf⟩, ⟨tabg⟩, ⟨taaa⟩⟩
          · replace c47 := zbg.mpr c47
            subst c47; have H1 : (laws_FnMeetsAndJoins.j1 kj9 t568 t569 t574 t582 true) = some r := by rw [if_neg (show ¬ (false = true) by decide)] at H; exact H
            clear H; have H := H1; clear H1; have H' := zad H
            clear H; go_wp2
            go_meet
            case rel => exact ⟨_, (true), (taad), H', ⟨tabc⟩, ⟨tabd⟩, ⟨tabe⟩, ⟨tabf⟩, ⟨tabg⟩, ⟨taaa⟩⟩
         case rest => as_aux_lemma =>
          clear HC41; try clear c1
          try clear c2
          try clear p2
          try clear c3
          try clear c4
          try clear c5
          try clear c14
          try clear c15
          try clear c16
          try clear c17
          try clear c18
          try clear c18b0
          try clear c18b1
          try clear c18b2
          try clear c19
          try clear c20
          try clear c21
          try clear c21b0
          try clear c21b1
          try clear c21b2
          try clear c25
          try clear c36
          try clear c37
          try clear c47
          try clear c48
          try clear c49
          try clear c51
          try clear c53
          try clear c55
          try clear c57
          try clear c59
          try clear p2
          obtain ⟨kq, x148_40, rfl, HA, HJ40, HO_5, HO_6, HO_7, HO_11, HB⟩ := hcut
          cases kq with
          | zero => exact absurd HA.out (by simp [laws_FnMeetsAndJoins.j1])
          | succ kj40 =>
           have H := HA.out
           clear HA; simp only [laws_FnMeetsAndJoins.j1] at H
           by_cases c84 : x148_40 = true
           · subst c84
             have H1 : (some false) = some r := by rw [if_pos rfl] at H; exact H
             clear H; have H := H1; clear H1; obtain rfl := zbc H
             go_wp2
             go_ret
             exact ⟨taam, taaa⟩
           · replace c84 := zbg.mpr c84
             subst c84; have H1 : ((impl_JoinOf.f kj40 t569 t568).bind fun bt610 => (if bt610.2 = true then ((laws_pSame.f kj40 bt610.1 t574).bind fun t614 => (laws_FnMeetsAndJoins.j2 kj40 t568 t569 t574 t582 (!t614))) else (laws_FnMeetsAndJoins.j2 kj40 t568 t569 t574 t582 true))) = some r := by rw [if_neg (show ¬ (false = true) by decide)] at H; exact H
             clear H; have H := H1; clear H1; replace H := zay.mp H; obtain ⟨⟨t610, t611⟩, A850, H⟩ := H
             replace H : (if t611 = true then ((laws_pSame.f kj40 t610 t574).bind fun t614 => (laws_FnMeetsAndJoins.j2 kj40 t568 t569 t574 t582 (!t614))) else (laws_FnMeetsAndJoins.j2 kj40 t568 t569 t574 t582 true)) = some r := H
             have A85 := zad A850; clear A850; have HC86 := zad H; clear H; go_upto_region 18 with (first | ((with_reducible refine zbf (f := 16) rfl ?_); refine zbl (some 152) rfl rfl Try.func16 (by kernel_rfl) rfl #[.slice Ao13 t569.length co13, .slice Ao12 t568.length co12] rfl (taac) ?_; (with_reducible refine (impl_JoinOf.calls kj40 _ _ t569 _ _ t568 t610 t611 _ ?side1 ?side2 ?side3 ?side4 A85.out).mono ?_); (case side1 => repeat (first | exact (zbd HO_6.out).2.2 | (with_reducible refine zal ?_ _) | (with_reducible refine zam ?_ _) | (with_reducible refine zan ?_))); (case side2 => exact (zbd HO_6.out).2.1); (case side3 => exact taex); (case side4 => exact (zbd HO_5.out).2.1); rintro e w87 ⟨v612, rfl, ho0, hb⟩; refine ⟨_, rfl, ?_⟩; have n0_ := zad (zby (taaf) (zca ho0) hb); have n1_ := zad (zby (taae) (zca ho0) hb); have n2_ := zad (zby (taag) (zca ho0) hb); have n3_ := zad (zby (taaj) (zca ho0) hb); have n4_ := zad (zbs (zbz (zbz (zbz (zbz ho0 (zcb (taaf))) (zcb (taae))) (zcb (taag))) (zcb (taaj))) (zbi (taaa))); have n5_ := zad (zbe (taaa) hb); clear HO_5 HO_6 HO_7 HO_11 HB; have HO_5 := n0_; have HO_6 := n1_; have HO_7 := n2_; have HO_11 := n3_; have HO613 := n4_; have HB := n5_; clear n0_ n1_ n2_ n3_ n4_ n5_; (try clear hb); (try clear hb2); (try clear hk); (try clear hi); (try clear ho0)))
             (try simp only [Act.put, zaa, zab, zac])
             go_cut [162] (fun v162 wc => ∃ (kq : Nat) (x162_85 : Bool), v162 = .bool x162_85 ∧ Aside0 (laws_FnMeetsAndJoins.j2 kq t568 t569 t574 t582 x162_85 = some r) ∧ Aside0 (kq ≤ kj40) ∧ Aside0 (Kd.R (Kd.int .i64) 3 wc w.heap.size (fun k_ => some k_ ≠ ((.slice Ao13 t569.length co13) : Value).ownBlock ∧ some k_ ≠ ((.slice Ao43 t574.length co43) : Value).ownBlock ∧ some k_ ≠ ((.slice Ao45 t582.length co45) : Value).ownBlock) (.slice Ao12 t568.length co12) t568) ∧ Aside0 (Kd.R (Kd.int .i64) 3 wc w.heap.size (fun k_ => some k_ ≠ ((.slice Ao12 t568.length co12) : Value).ownBlock ∧ some k_ ≠ ((.slice Ao43 t574.length co43) : Value).ownBlock ∧ some k_ ≠ ((.slice Ao45 t582.length co45) : Value).ownBlock) (.slice Ao13 t569.length co13) t569) ∧ Aside0 (Kd.R (Kd.int .i64) 3 wc w.heap.size (fun k_ => some k_ ≠ ((.slice Ao12 t568.length co12) : Value).ownBlock ∧ some k_ ≠ ((.slice Ao13 t569.length co13) : Value).ownBlock ∧ some k_ ≠ ((.slice Ao45 t582.length co45) : Value).ownBlock) (.slice Ao43 t574.length co43) t574) ∧ Aside0 (Kd.R (Kd.int .i64) 3 wc w.heap.size (fun k_ => some k_ ≠ ((.slice Ao12 t568.length co12) : Value).ownBlock ∧ some k_ ≠ ((.slice Ao13 t569.length co13) : Value).ownBlock ∧ some k_ ≠ ((.slice Ao43 t574.length co43) : Value).ownBlock) (.slice Ao45 t582.length co45) t582) ∧ Aside0 (Below w.heap.size w wc))
             case first => as_aux_lemma =>
              have H := HC86.out
              clear HC86; by_cases c88 : t611 = true
              · subst c88
                have H1 : ((laws_pSame.f kj40 t610 t574).bind fun t614 => (laws_FnMeetsAndJoins.j2 kj40 t568 t569 t574 t582 (!t614))) = some r := by rw [if_pos rfl] at H; exact H
                clear H; have H := H1; clear H1; replace H := zay.mp H; obtain ⟨t614, A890, H⟩ := H
                replace H : (laws_FnMeetsAndJoins.j2 kj40 t568 t569 t574 t582 (!t614)) = some r := H
                have A89 := zad A890; clear A890; have H' := zad H
                clear H; obtain ⟨Ao90, co90, eo90⟩ := zbt HO613.out
                subst eo90; go_wp2_with (first | (go_at_call 20; (with_reducible refine (laws_pSame.calls kj40 _ _ t610 _ _ t574 t614 _ ?side1 ?side2 ?side3 ?side4 A89.out).mono ?_); (case side1 => repeat (first | exact (zbd HO613.out).2.2 | (with_reducible refine zal ?_ _) | (with_reducible refine zam ?_ _) | (with_reducible refine zan ?_))); (case side2 => exact (zbd HO613.out).2.1); (case side3 => exact taeq); (case side4 => exact (zbd HO_7.out).2.1); rintro e w' ⟨rfl, ⟨nd, rfl⟩⟩))
                go_meet
                case rel => exact ⟨_, (!t614), (taad), H', ⟨tadw⟩, ⟨tadx⟩, ⟨tady⟩, ⟨tadz⟩, ⟨taea⟩, ⟨taaa⟩⟩
              · replace c88 := zbg.mpr c88
                subst c88; have H1 : (laws_FnMeetsAndJoins.j2 kj40 t568 t569 t574 t582 true) = some r := by rw [if_neg (show ¬ (false = true) by decide)] at H; exact H
                clear H; have H := H1; clear H1; have H' := zad H
                clear H; go_wp2
                go_meet
                case rel => exact ⟨_, (true), (taad), H', ⟨tadw⟩, ⟨tadx⟩, ⟨tady⟩, ⟨tadz⟩, ⟨taea⟩, ⟨taaa⟩⟩
             case rest => as_aux_lemma =>
              clear HC86; try clear c1
              try clear c2
              try clear p2
              try clear c3
              try clear c4
              try clear c5
              try clear c8
              try clear c14
              try clear c15
              try clear c16
              try clear c17
              try clear c18
              try clear c18b0
              try clear c18b1
              try clear c18b2
              try clear c19
              try clear c20
              try clear c21
              try clear c21b0
              try clear c21b1
              try clear c21b2
              try clear c25
              try clear c36
              try clear c37
              try clear c47
              try clear c48
              try clear c49
              try clear c51
              try clear c53
              try clear c55
              try clear c57
              try clear c59
              try clear c84
              try clear c88
              try clear p2
              obtain ⟨kq, x162_85, rfl, HA, HJ85, HO_5, HO_6, HO_7, HO_11, HB⟩ := hcut
              cases kq with
              | zero => exact absurd HA.out (by simp [laws_FnMeetsAndJoins.j2])
              | succ kj85 =>
               have H := HA.out
               clear HA; simp only [laws_FnMeetsAndJoins.j2] at H
               by_cases c91 : x162_85 = true
               · subst c91
                 have H1 : (some false) = some r := by rw [if_pos rfl] at H; exact H
                 clear H; have H := H1; clear H1; obtain rfl := zbc H
                 go_wp2
                 go_ret
                 exact ⟨taam, taaa⟩
               · replace c91 := zbg.mpr c91
                 subst c91; have H1 : ((impl_BelowOf.f kj85 t574).bind fun bt615 => (if bt615.2 = true then (if (bt615.1.length : Int) > 150 then (some true) else (laws_FnMeetsAndJoins.l0 kj85 t568 t569 t574 t582 bt615.1 (bt615.1.length : Int) 0)) else ((laws_pSum.f kj85 t568).bind fun t619 => (some (decide (t619 > 30)))))) = some r := by rw [if_neg (show ¬ (false = true) by decide)] at H; exact H
                 clear H; have H := H1; clear H1; replace H := zay.mp H; obtain ⟨⟨t615, t616⟩, A920, H⟩ := H
                 replace H : (if t616 = true then (if (t615.length : Int) > 150 then (some true) else (laws_FnMeetsAndJoins.l0 kj85 t568 t569 t574 t582 t615 (t615.length : Int) 0)) else ((laws_pSum.f kj85 t568).bind fun t619 => (some (decide (t619 > 30))))) = some r := H
                 have A92 := zad A920; clear A920; by_cases c93 : t616 = true
                 · subst c93
                   have H1 : (if (t615.length : Int) > 150 then (some true) else (laws_FnMeetsAndJoins.l0 kj85 t568 t569 t574 t582 t615 (t615.length : Int) 0)) = some r := by rw [if_pos rfl] at H; exact H
                   clear H; have H := H1; clear H1; by_cases c94 : (t615.length : Int) > 150
                   · rw [if_pos c94] at H
                     have c94b0 : decide (150 < (t615.length : Int)) = true := zba c94
                     have c94b1 : decide (150 < t615.length) = true := zba (by omega)
                     clear c94; obtain rfl := zbc H
                     go_wp2_with (first | ((with_reducible refine zbf (f := 23) rfl ?_); refine zbl (some 165) rfl rfl Try.func23 (by kernel_rfl) rfl #[.slice Ao43 t574.length co43] rfl (taac) ?_; (with_reducible refine (impl_BelowOf.calls kj85 _ _ t574 t615 true _ ?side1 ?side2 A92.out).mono ?_); (case side1 => exact taeq); (case side2 => exact (zbd HO_7.out).2.1); rintro e w95 ⟨v617, rfl, ho0, hb⟩; refine ⟨_, rfl, ?_⟩; have n0_ := zad (zbr (taaf) hb); have n1_ := zad (zbr (taae) hb); have n2_ := zad (zbr (taag) hb); have n3_ := zad (zbr (taaj) hb); have n4_ := zad (Kd.S_lower (Kd.S_new' (Kd.S_new' (Kd.S_new' (Kd.S_new' ho0 (zcb (taaf))) (zcb (taae))) (zcb (taag))) (zcb (taaj))) (zbi (taaa))); have n5_ := zad (zbe (taaa) hb); clear HO_5 HO_6 HO_7 HO_11 HB; have HO_5 := n0_; have HO_6 := n1_; have HO_7 := n2_; have HO_11 := n3_; have HO618 := n4_; have HB := n5_; clear n0_ n1_ n2_ n3_ n4_ n5_; (try clear hb); (try clear hb2); (try clear hk); (try clear hi); (try clear ho0); obtain ⟨Ao96, co96, eo96⟩ := Kd.S_slice HO618.out; subst eo96))
                     go_ret
                     exact ⟨taam, taaa⟩
                   · rw [if_neg c94] at H
                     have c94b0 : decide (150 < (t615.length : Int)) = false := zbh c94
                     have c94b1 : decide (150 < t615.length) = false := zbh (by omega)
                     clear c94; have H' := zad H
                     clear H; go_wp2_with (first | ((with_reducible refine zbf (f := 23) rfl ?_); refine zbl (some 165) rfl rfl Try.func23 (by kernel_rfl) rfl #[.slice Ao43 t574.length co43] rfl (taac) ?_; (with_reducible refine (impl_BelowOf.calls kj85 _ _ t574 t615 true _ ?side1 ?side2 A92.out).mono ?_); (case side1 => exact taeq); (case side2 => exact (zbd HO_7.out).2.1); rintro e w97 ⟨v617, rfl, ho0, hb⟩; refine ⟨_, rfl, ?_⟩; have n0_ := zad (zbr (taaf) hb); have n1_ := zad (zbr (taae) hb); have n2_ := zad (zbr (taag) hb); have n3_ := zad (zbr (taaj) hb); have n4_ := zad (Kd.S_lower (Kd.S_new' (Kd.S_new' (Kd.S_new' (Kd.S_new' ho0 (zcb (taaf))) (zcb (taae))) (zcb (taag))) (zcb (taaj))) (zbi (taaa))); have n5_ := zad (zbe (taaa) hb); clear HO_5 HO_6 HO_7 HO_11 HB; have HO_5 := n0_; have HO_6 := n1_; have HO_7 := n2_; have HO_11 := n3_; have HO618 := n4_; have HB := n5_; clear n0_ n1_ n2_ n3_ n4_ n5_; (try clear hb); (try clear hb2); (try clear hk); (try clear hi); (try clear ho0); obtain ⟨Ao98, co98, eo98⟩ := Kd.S_slice HO618.out; subst eo98))
                     go_loopg [178] kj85 (fun kq v178 w' => ∃ (x178_4 : Int), v178 = .int .i64 x178_4 ∧ Aside0 (laws_FnMeetsAndJoins.l0 kq t568 t569 t574 t582 t615 (t615.length : Int) x178_4 = some r) ∧ Aside0 (kq ≤ kj85) ∧ Aside0 (Kd.R (Kd.int .i64) 3 w' w.heap.size (fun k_ => some k_ ≠ ((.slice Ao13 t569.length co13) : Value).ownBlock ∧ some k_ ≠ ((.slice Ao43 t574.length co43) : Value).ownBlock ∧ some k_ ≠ ((.slice Ao45 t582.length co45) : Value).ownBlock) (.slice Ao12 t568.length co12) t568) ∧ Aside0 (Kd.R (Kd.int .i64) 3 w' w.heap.size (fun k_ => some k_ ≠ ((.slice Ao12 t568.length co12) : Value).ownBlock ∧ some k_ ≠ ((.slice Ao43 t574.length co43) : Value).ownBlock ∧ some k_ ≠ ((.slice Ao45 t582.length co45) : Value).ownBlock) (.slice Ao13 t569.length co13) t569) ∧ Aside0 (Kd.R (Kd.int .i64) 3 w' w.heap.size (fun k_ => some k_ ≠ ((.slice Ao12 t568.length co12) : Value).ownBlock ∧ some k_ ≠ ((.slice Ao13 t569.length co13) : Value).ownBlock ∧ some k_ ≠ ((.slice Ao45 t582.length co45) : Value).ownBlock) (.slice Ao43 t574.length co43) t574) ∧ Aside0 (Kd.R (Kd.int .i64) 3 w' w.heap.size (fun k_ => some k_ ≠ ((.slice Ao12 t568.length co12) : Value).ownBlock ∧ some k_ ≠ ((.slice Ao13 t569.length co13) : Value).ownBlock ∧ some k_ ≠ ((.slice Ao43 t574.length co43) : Value).ownBlock) (.slice Ao45 t582.length co45) t582) ∧ Aside0 (Kd.S (Kd.slice 3 (Kd.int .i64)) 22 w' w.heap.size (fun k_ => some k_ ≠ ((.slice Ao12 t568.length co12) : Value).ownBlock ∧ some k_ ≠ ((.slice Ao13 t569.length co13) : Value).ownBlock ∧ some k_ ≠ ((.slice Ao43 t574.length co43) : Value).ownBlock ∧ some k_ ≠ ((.slice Ao45 t582.length co45) : Value).ownBlock) (.slice Ao98 t615.length co98) t615) ∧ Aside0 (Below w.heap.size w w'))
                     case atStart => exact ⟨(0), (taad), H', ⟨zcc _⟩, ⟨taaf⟩, ⟨taae⟩, ⟨taag⟩, ⟨taaj⟩, ⟨by (with_reducible repeat (first | apply Kd.S_alloc | apply Kd.S_drewN | apply Kd.S_drew)); exact Kd.S_mono HO618.out (fun _ hk => ⟨hk.1.1.1.2, ⟨hk.1.1.2, ⟨hk.1.2, hk.2⟩⟩⟩)⟩, ⟨taaa⟩⟩
                     case round =>
                      clear H'
                      try clear c1
                      try clear c2
                      try clear p2
                      try clear c3
                      try clear c4
                      try clear c5
                      try clear c8
                      try clear c9
                      try clear c14
                      try clear c15
                      try clear c16
                      try clear c17
                      try clear c18
                      try clear c18b0
                      try clear c18b1
                      try clear c18b2
                      try clear c19
                      try clear c20
                      try clear c21
                      try clear c21b0
                      try clear c21b1
                      try clear c21b2
                      try clear c23
                      try clear c25
                      try clear c36
                      try clear c37
                      try clear c47
                      try clear c48
                      try clear c49
                      try clear c51
                      try clear c53
                      try clear c55
                      try clear c57
                      try clear c59
                      try clear c84
                      try clear c88
                      try clear c91
                      try clear c93
                      try clear c94
                      try clear c94b0
                      try clear c94b1
                      try clear p2
                      obtain ⟨x178_4, rfl, HA, HK4, HO_5, HO_6, HO_7, HO_11, HO_176, HB⟩ := hrel
                      cases gk with
                      | zero => exact absurd HA.out (by simp [laws_FnMeetsAndJoins.l0])
                      | succ k4 =>
                       have H := HA.out
                       clear HA; simp only [laws_FnMeetsAndJoins.l0] at H
                       by_cases c99 : x178_4 < (t615.length : Int)
                       · rw [if_pos c99] at H
                         have c99b0 : decide (x178_4 < (t615.length : Int)) = true := zba c99
                         clear c99; by_cases c100 : 0 ≤ x178_4
                         · rw [if_pos c100] at H
                           have c100b0 : decide (0 ≤ x178_4) = true := zba c100
                           clear c100; by_cases c101 : x178_4 < (t615.length : Int)
                           · rw [if_pos c101] at H
                             have c101b0 : decide (x178_4 < (t615.length : Int)) = true := zba c101
                             clear c101; replace H := zay.mp H; obtain ⟨t621, A1020, H⟩ := H
                             replace H : (if t621 = true then ((laws_pBelow.f k4 (rd_L1 t615 x178_4) t569).bind fun t622 => (if t622 = true then ((laws_pBelow.f k4 (rd_L1 t615 x178_4) t582).bind fun t623 => (if t623 = true then ((laws_pBelow.f k4 t568 (rd_L1 t615 x178_4)).bind fun t624 => (if t624 = true then ((laws_pBelow.f k4 t569 (rd_L1 t615 x178_4)).bind fun t625 => (if t625 = true then ((laws_pSame.f k4 (rd_L1 t615 x178_4) t574).bind fun t626 => (if t626 = true then (laws_FnMeetsAndJoins.l0 k4 t568 t569 t574 t582 t615 (t615.length : Int) (wrap64 (x178_4 + 1))) else (some false))) else (laws_FnMeetsAndJoins.l0 k4 t568 t569 t574 t582 t615 (t615.length : Int) (wrap64 (x178_4 + 1))))) else (laws_FnMeetsAndJoins.l0 k4 t568 t569 t574 t582 t615 (t615.length : Int) (wrap64 (x178_4 + 1))))) else (some false))) else ((laws_pBelow.f k4 t568 (rd_L1 t615 x178_4)).bind fun t627 => (if t627 = true then ((laws_pBelow.f k4 t569 (rd_L1 t615 x178_4)).bind fun t628 => (if t628 = true then ((laws_pSame.f k4 (rd_L1 t615 x178_4) t574).bind fun t629 => (if t629 = true then (laws_FnMeetsAndJoins.l0 k4 t568 t569 t574 t582 t615 (t615.length : Int) (wrap64 (x178_4 + 1))) else (some false))) else (laws_FnMeetsAndJoins.l0 k4 t568 t569 t574 t582 t615 (t615.length : Int) (wrap64 (x178_4 + 1))))) else (laws_FnMeetsAndJoins.l0 k4 t568 t569 t574 t582 t615 (t615.length : Int) (wrap64 (x178_4 + 1))))))) else ((laws_pBelow.f k4 t568 (rd_L1 t615 x178_4)).bind fun t630 => (if t630 = true then ((laws_pBelow.f k4 t569 (rd_L1 t615 x178_4)).bind fun t631 => (if t631 = true then ((laws_pSame.f k4 (rd_L1 t615 x178_4) t574).bind fun t632 => (if t632 = true then (laws_FnMeetsAndJoins.l0 k4 t568 t569 t574 t582 t615 (t615.length : Int) (wrap64 (x178_4 + 1))) else (some false))) else (laws_FnMeetsAndJoins.l0 k4 t568 t569 t574 t582 t615 (t615.length : Int) (wrap64 (x178_4 + 1))))) else (laws_FnMeetsAndJoins.l0 k4 t568 t569 t574 t582 t615 (t615.length : Int) (wrap64 (x178_4 + 1)))))) = some r := H
                             have A102 := zad A1020; clear A1020; by_cases c103 : t621 = true
                             · subst c103
                               have H1 : ((laws_pBelow.f k4 (rd_L1 t615 x178_4) t569).bind fun t622 => (if t622 = true then ((laws_pBelow.f k4 (rd_L1 t615 x178_4) t582).bind fun t623 => (if t623 = true then ((laws_pBelow.f k4 t568 (rd_L1 t615 x178_4)).bind fun t624 => (if t624 = true then ((laws_pBelow.f k4 t569 (rd_L1 t615 x178_4)).bind fun t625 => (if t625 = true then ((laws_pSame.f k4 (rd_L1 t615 x178_4) t574).bind fun t626 => (if t626 = true then (laws_FnMeetsAndJoins.l0 k4 t568 t569 t574 t582 t615 (t615.length : Int) (wrap64 (x178_4 + 1))) else (some false))) else (laws_FnMeetsAndJoins.l0 k4 t568 t569 t574 t582 t615 (t615.length : Int) (wrap64 (x178_4 + 1))))) else (laws_FnMeetsAndJoins.l0 k4 t568 t569 t574 t582 t615 (t615.length : Int) (wrap64 (x178_4 + 1))))) else (some false))) else ((laws_pBelow.f k4 t568 (rd_L1 t615 x178_4)).bind fun t627 => (if t627 = true then ((laws_pBelow.f k4 t569 (rd_L1 t615 x178_4)).bind fun t628 => (if t628 = true then ((laws_pSame.f k4 (rd_L1 t615 x178_4) t574).bind fun t629 => (if t629 = true then (laws_FnMeetsAndJoins.l0 k4 t568 t569 t574 t582 t615 (t615.length : Int) (wrap64 (x178_4 + 1))) else (some false))) else (laws_FnMeetsAndJoins.l0 k4 t568 t569 t574 t582 t615 (t615.length : Int) (wrap64 (x178_4 + 1))))) else (laws_FnMeetsAndJoins.l0 k4 t568 t569 t574 t582 t615 (t615.length : Int) (wrap64 (x178_4 + 1))))))) = some r := by rw [if_pos rfl] at H; exact H
                               clear H; have H := H1; clear H1; replace H := zay.mp H; obtain ⟨t622, A1040, H⟩ := H
                               replace H : (if t622 = true then ((laws_pBelow.f k4 (rd_L1 t615 x178_4) t582).bind fun t623 => (if t623 = true then ((laws_pBelow.f k4 t568 (rd_L1 t615 x178_4)).bind fun t624 => (if t624 = true then ((laws_pBelow.f k4 t569 (rd_L1 t615 x178_4)).bind fun t625 => (if t625 = true then ((laws_pSame.f k4 (rd_L1 t615 x178_4) t574).bind fun t626 => (if t626 = true then (laws_FnMeetsAndJoins.l0 k4 t568 t569 t574 t582 t615 (t615.length : Int) (wrap64 (x178_4 + 1))) else (some false))) else (laws_FnMeetsAndJoins.l0 k4 t568 t569 t574 t582 t615 (t615.length : Int) (wrap64 (x178_4 + 1))))) else (laws_FnMeetsAndJoins.l0 k4 t568 t569 t574 t582 t615 (t615.length : Int) (wrap64 (x178_4 + 1))))) else (some false))) else ((laws_pBelow.f k4 t568 (rd_L1 t615 x178_4)).bind fun t627 => (if t627 = true then ((laws_pBelow.f k4 t569 (rd_L1 t615 x178_4)).bind fun t628 => (if t628 = true then ((laws_pSame.f k4 (rd_L1 t615 x178_4) t574).bind fun t629 => (if t629 = true then (laws_FnMeetsAndJoins.l0 k4 t568 t569 t574 t582 t615 (t615.length : Int) (wrap64 (x178_4 + 1))) else (some false))) else (laws_FnMeetsAndJoins.l0 k4 t568 t569 t574 t582 t615 (t615.length : Int) (wrap64 (x178_4 + 1))))) else (laws_FnMeetsAndJoins.l0 k4 t568 t569 t574 t582 t615 (t615.length : Int) (wrap64 (x178_4 + 1)))))) = some r := H
                               have A104 := zad A1040; clear A1040; by_cases c105 : t622 = true
                               · subst c105
                                 have H1 : ((laws_pBelow.f k4 (rd_L1 t615 x178_4) t582).bind fun t623 => (if t623 = true then ((laws_pBelow.f k4 t568 (rd_L1 t615 x178_4)).bind fun t624 => (if t624 = true then ((laws_pBelow.f k4 t569 (rd_L1 t615 x178_4)).bind fun t625 => (if t625 = true then ((laws_pSame.f k4 (rd_L1 t615 x178_4) t574).bind fun t626 => (if t626 = true then (laws_FnMeetsAndJoins.l0 k4 t568 t569 t574 t582 t615 (t615.length : Int) (wrap64 (x178_4 + 1))) else (some false))) else (laws_FnMeetsAndJoins.l0 k4 t568 t569 t574 t582 t615 (t615.length : Int) (wrap64 (x178_4 + 1))))) else (laws_FnMeetsAndJoins.l0 k4 t568 t569 t574 t582 t615 (t615.length : Int) (wrap64 (x178_4 + 1))))) else (some false))) = some r := by rw [if_pos rfl] at H; exact H
                                 clear H; have H := H1; clear H1; replace H := zay.mp H; obtain ⟨t623, A1060, H⟩ := H
                                 replace H : (if t623 = true then ((laws_pBelow.f k4 t568 (rd_L1 t615 x178_4)).bind fun t624 => (if t624 = true then ((laws_pBelow.f k4 t569 (rd_L1 t615 x178_4)).bind fun t625 => (if t625 = true then ((laws_pSame.f k4 (rd_L1 t615 x178_4) t574).bind fun t626 => (if t626 = true then (laws_FnMeetsAndJoins.l0 k4 t568 t569 t574 t582 t615 (t615.length : Int) (wrap64 (x178_4 + 1))) else (some false))) else (laws_FnMeetsAndJoins.l0 k4 t568 t569 t574 t582 t615 (t615.length : Int) (wrap64 (x178_4 + 1))))) else (laws_FnMeetsAndJoins.l0 k4 t568 t569 t574 t582 t615 (t615.length : Int) (wrap64 (x178_4 + 1))))) else (some false)) = some r := H
                                 have A106 := zad A1060; clear A1060; by_cases c107 : t623 = true
                                 · subst c107
                                   have H1 : ((laws_pBelow.f k4 t568 (rd_L1 t615 x178_4)).bind fun t624 => (if t624 = true then ((laws_pBelow.f k4 t569 (rd_L1 t615 x178_4)).bind fun t625 => (if t625 = true then ((laws_pSame.f k4 (rd_L1 t615 x178_4) t574).bind fun t626 => (if t626 = true then (laws_FnMeetsAndJoins.l0 k4 t568 t569 t574 t582 t615 (t615.length : Int) (wrap64 (x178_4 + 1))) else (some false))) else (laws_FnMeetsAndJoins.l0 k4 t568 t569 t574 t582 t615 (t615.length : Int) (wrap64 (x178_4 + 1))))) else (laws_FnMeetsAndJoins.l0 k4 t568 t569 t574 t582 t615 (t615.length : Int) (wrap64 (x178_4 + 1))))) = some r := by rw [if_pos rfl] at H; exact H
                                   clear H; have H := H1; clear H1; replace H := zay.mp H; obtain ⟨t624, A1080, H⟩ := H
                                   replace H : (if t624 = true then ((laws_pBelow.f k4 t569 (rd_L1 t615 x178_4)).bind fun t625 => (if t625 = true then ((laws_pSame.f k4 (rd_L1 t615 x178_4) t574).bind fun t626 => (if t626 = true then (laws_FnMeetsAndJoins.l0 k4 t568 t569 t574 t582 t615 (t615.length : Int) (wrap64 (x178_4 + 1))) else (some false))) else (laws_FnMeetsAndJoins.l0 k4 t568 t569 t574 t582 t615 (t615.length : Int) (wrap64 (x178_4 + 1))))) else (laws_FnMeetsAndJoins.l0 k4 t568 t569 t574 t582 t615 (t615.length : Int) (wrap64 (x178_4 + 1)))) = some r := H
                                   have A108 := zad A1080; clear A1080; by_cases c109 : t624 = true
                                   · subst c109
                                     have H1 : ((laws_pBelow.f k4 t569 (rd_L1 t615 x178_4)).bind fun t625 => (if t625 = true then ((laws_pSame.f k4 (rd_L1 t615 x178_4) t574).bind fun t626 => (if t626 = true then (laws_FnMeetsAndJoins.l0 k4 t568 t569 t574 t582 t615 (t615.length : Int) (wrap64 (x178_4 + 1))) else (some false))) else (laws_FnMeetsAndJoins.l0 k4 t568 t569 t574 t582 t615 (t615.length : Int) (wrap64 (x178_4 + 1))))) = some r := by rw [if_pos rfl] at H; exact H
                                     clear H; have H := H1; clear H1; replace H := zay.mp H; obtain ⟨t625, A1100, H⟩ := H
                                     replace H : (if t625 = true then ((laws_pSame.f k4 (rd_L1 t615 x178_4) t574).bind fun t626 => (if t626 = true then (laws_FnMeetsAndJoins.l0 k4 t568 t569 t574 t582 t615 (t615.length : Int) (wrap64 (x178_4 + 1))) else (some false))) else (laws_FnMeetsAndJoins.l0 k4 t568 t569 t574 t582 t615 (t615.length : Int) (wrap64 (x178_4 + 1)))) = some r := H
                                     have A110 := zad A1100; clear A1100; by_cases c111 : t625 = true
                                     · subst c111
                                       have H1 : ((laws_pSame.f k4 (rd_L1 t615 x178_4) t574).bind fun t626 => (if t626 = true then (laws_FnMeetsAndJoins.l0 k4 t568 t569 t574 t582 t615 (t615.length : Int) (wrap64 (x178_4 + 1))) else (some false))) = some r := by rw [if_pos rfl] at H; exact H
                                       clear H; have H := H1; clear H1; replace H := zay.mp H; obtain ⟨t626, A1120, H⟩ := H
                                       replace H : (if t626 = true then (laws_FnMeetsAndJoins.l0 k4 t568 t569 t574 t582 t615 (t615.length : Int) (wrap64 (x178_4 + 1))) else (some false)) = some r := H
                                       have A112 := zad A1120; clear A1120; by_cases c113 : t626 = true
                                       · subst c113
                                         have H1 : (laws_FnMeetsAndJoins.l0 k4 t568 t569 t574 t582 t615 (t615.length : Int) (wrap64 (x178_4 + 1))) = some r := by rw [if_pos rfl] at H; exact H
                                         clear H; have H := H1; clear H1; have H' := zad H
                                         clear H; have p620 : 0 ≤ (x178_4 : Int) := zas (taab)
                                         have q620 : x178_4 < (t615.length : Int) := zas (taab)
                                         obtain ⟨ad620, A620_0, c620_0, e620, hx620_0, hl620_0, hi620_0⟩ := at_L1 (Kd.S_reads' HO_176.out).2.2 x178_4 p620 q620
                                         cases e620
                                         obtain ⟨ce620, hce620, hMe620, hcc620⟩ := Kd.S_get HO_176.out [] x178_4 p620 (taed)
                                         obtain ⟨ve620_0, rfl, ge620_0⟩ := hMe620
                                         have hv620_0 := hcc620 0 _ rfl
                                         rw [Nat.add_zero, show ((Kd.slice 3 (Kd.int .i64))).sz = 1 from rfl, Nat.mul_one] at hv620_0
                                         replace hv620_0 := zbc (hv620_0.symm.trans hx620_0)
                                         rw [hv620_0] at ge620_0
                                         have HL620_0 := zad (show Kd.R (Kd.int .i64) 3 _ _ _ _ (rd_L1 t615 x178_4) from ge620_0)
                                         clear hv620_0 ge620_0 hcc620 hce620; have HR620_0 := zad hi620_0; have HC620_0 := zad hl620_0; clear hi620_0 hl620_0; replace p620 := eq_true p620
                                         replace q620 := eq_true q620
                                         go_wp2_with (first | ((with_reducible refine zbf (f := 22) rfl ?_); refine zbl (some 184) rfl rfl Try.func22 (by kernel_rfl) rfl #[.slice A620_0 (rd_L1 t615 x178_4).length c620_0, .slice Ao12 t568.length co12] rfl (taac) ?_; (with_reducible refine (zck k4 _ _ (rd_L1 t615 x178_4) _ _ t568 true _ ?side1 ?side2 ?side3 ?side4 A102.out).mono ?_); (case side1 => repeat (first | exact (taai) | (with_reducible refine zal ?_ _) | (with_reducible refine zam ?_ _) | (with_reducible refine zan ?_))); (case side2 => exact HC620_0.out); (case side3 => repeat (first | exact (zbd HO_5.out).2.2 | (with_reducible refine zal ?_ _) | (with_reducible refine zam ?_ _) | (with_reducible refine zan ?_))); (case side4 => exact (zbd HO_5.out).2.1); rintro e w114 ⟨rfl, hb⟩; refine ⟨_, rfl, ?_⟩; have n0_ := zad (zbr (taaf) hb); have n1_ := zad (zbr (taae) hb); have n2_ := zad (zbr (taag) hb); have n3_ := zad (zbr (taaj) hb); have n4_ := zad (Kd.S_below (taan) hb); have n5_ := zad (zbr (taao) hb); have n6_ := zad (Kd.C_below (taai) hb); have n7_ := zad (zbe (taaa) hb); clear HO_5 HO_6 HO_7 HO_11 HO_176 HL620_0 HR620_0 HB; have HO_5 := n0_; have HO_6 := n1_; have HO_7 := n2_; have HO_11 := n3_; have HO_176 := n4_; have HL620_0 := n5_; have HR620_0 := n6_; have HB := n7_; clear n0_ n1_ n2_ n3_ n4_ n5_ n6_ n7_; (try clear hb); (try clear hb2); (try clear hk); (try clear hi)) | (go_at_call 22; (with_reducible refine (zck k4 _ _ (rd_L1 t615 x178_4) _ _ t569 true _ ?side1 ?side2 ?side3 ?side4 A104.out).mono ?_); (case side1 => repeat (first | exact (taai) | (with_reducible refine zal ?_ _) | (with_reducible refine zam ?_ _) | (with_reducible refine zan ?_))); (case side2 => exact HC620_0.out); (case side3 => repeat (first | exact (zbd HO_6.out).2.2 | (with_reducible refine zal ?_ _) | (with_reducible refine zam ?_ _) | (with_reducible refine zan ?_))); (case side4 => exact (zbd HO_6.out).2.1); rintro e w115 ⟨rfl, hb⟩; have n0_ := zad (zbr (taaf) hb); have n1_ := zad (zbr (taae) hb); have n2_ := zad (zbr (taag) hb); have n3_ := zad (zbr (taaj) hb); have n4_ := zad (Kd.S_below (taan) hb); have n5_ := zad (zbr (taao) hb); have n6_ := zad (Kd.C_below (taai) hb); have n7_ := zad (zbe (taaa) hb); clear HO_5 HO_6 HO_7 HO_11 HO_176 HL620_0 HR620_0 HB; have HO_5 := n0_; have HO_6 := n1_; have HO_7 := n2_; have HO_11 := n3_; have HO_176 := n4_; have HL620_0 := n5_; have HR620_0 := n6_; have HB := n7_; clear n0_ n1_ n2_ n3_ n4_ n5_ n6_ n7_; (try clear hb); (try clear hb2); (try clear hk); (try clear hi)) | (go_at_call 22; (with_reducible refine (zck k4 _ _ (rd_L1 t615 x178_4) _ _ t582 true _ ?side1 ?side2 ?side3 ?side4 A106.out).mono ?_); (case side1 => repeat (first | exact (taai) | (with_reducible refine zal ?_ _) | (with_reducible refine zam ?_ _) | (with_reducible refine zan ?_))); (case side2 => exact HC620_0.out); (case side3 => repeat (first | exact (zbd HO_11.out).2.2 | (with_reducible refine zal ?_ _) | (with_reducible refine zam ?_ _) | (with_reducible refine zan ?_))); (case side4 => exact (zbd HO_11.out).2.1); rintro e w116 ⟨rfl, hb⟩; have n0_ := zad (zbr (taaf) hb); have n1_ := zad (zbr (taae) hb); have n2_ := zad (zbr (taag) hb); have n3_ := zad (zbr (taaj) hb); have n4_ := zad (Kd.S_below (taan) hb); have n5_ := zad (zbr (taao) hb); have n6_ := zad (Kd.C_below (taai) hb); have n7_ := zad (zbe (taaa) hb); clear HO_5 HO_6 HO_7 HO_11 HO_176 HL620_0 HR620_0 HB; have HO_5 := n0_; have HO_6 := n1_; have HO_7 := n2_; have HO_11 := n3_; have HO_176 := n4_; have HL620_0 := n5_; have HR620_0 := n6_; have HB := n7_; clear n0_ n1_ n2_ n3_ n4_ n5_ n6_ n7_; (try clear hb); (try clear hb2); (try clear hk); (try clear hi)) | (go_at_call 22; (with_reducible refine (zck k4 _ _ t568 _ _ (rd_L1 t615 x178_4) true _ ?side1 ?side2 ?side3 ?side4 A108.out).mono ?_); (case side1 => repeat (first | exact (zbd HO_5.out).2.2 | (with_reducible refine zal ?_ _) | (with_reducible refine zam ?_ _) | (with_reducible refine zan ?_))); (case side2 => exact (zbd HO_5.out).2.1); (case side3 => repeat (first | exact (taai) | (with_reducible refine zal ?_ _) | (with_reducible refine zam ?_ _) | (with_reducible refine zan ?_))); (case side4 => exact HC620_0.out); rintro e w117 ⟨rfl, hb⟩; have n0_ := zad (zbr (taaf) hb); have n1_ := zad (zbr (taae) hb); have n2_ := zad (zbr (taag) hb); have n3_ := zad (zbr (taaj) hb); have n4_ := zad (Kd.S_below (taan) hb); have n5_ := zad (zbr (taao) hb); have n6_ := zad (Kd.C_below (taai) hb); have n7_ := zad (zbe (taaa) hb); clear HO_5 HO_6 HO_7 HO_11 HO_176 HL620_0 HR620_0 HB; have HO_5 := n0_; have HO_6 := n1_; have HO_7 := n2_; have HO_11 := n3_; have HO_176 := n4_; have HL620_0 := n5_; have HR620_0 := n6_; have HB := n7_; clear n0_ n1_ n2_ n3_ n4_ n5_ n6_ n7_; (try clear hb); (try clear hb2); (try clear hk); (try clear hi)) | (go_at_call 22; (with_reducible refine (zck k4 _ _ t569 _ _ (rd_L1 t615 x178_4) true _ ?side1 ?side2 ?side3 ?side4 A110.out).mono ?_); (case side1 => repeat (first | exact (zbd HO_6.out).2.2 | (with_reducible refine zal ?_ _) | (with_reducible refine zam ?_ _) | (with_reducible refine zan ?_))); (case side2 => exact (zbd HO_6.out).2.1); (case side3 => repeat (first | exact (taai) | (with_reducible refine zal ?_ _) | (with_reducible refine zam ?_ _) | (with_reducible refine zan ?_))); (case side4 => exact HC620_0.out); rintro e w118 ⟨rfl, hb⟩; have n0_ := zad (zbr (taaf) hb); have n1_ := zad (zbr (taae) hb); have n2_ := zad (zbr (taag) hb); have n3_ := zad (zbr (taaj) hb); have n4_ := zad (Kd.S_below (taan) hb); have n5_ := zad (zbr (taao) hb); have n6_ := zad (Kd.C_below (taai) hb); have n7_ := zad (zbe (taaa) hb); clear HO_5 HO_6 HO_7 HO_11 HO_176 HL620_0 HR620_0 HB; have HO_5 := n0_; have HO_6 := n1_; have HO_7 := n2_; have HO_11 := n3_; have HO_176 := n4_; have HL620_0 := n5_; have HR620_0 := n6_; have HB := n7_; clear n0_ n1_ n2_ n3_ n4_ n5_ n6_ n7_; (try clear hb); (try clear hb2); (try clear hk); (try clear hi)) | (go_at_call 20; (with_reducible refine (laws_pSame.calls k4 _ _ (rd_L1 t615 x178_4) _ _ t574 true _ ?side1 ?side2 ?side3 ?side4 A112.out).mono ?_); (case side1 => repeat (first | exact (taai) | (with_reducible refine zal ?_ _) | (with_reducible refine zam ?_ _) | (with_reducible refine zan ?_))); (case side2 => exact HC620_0.out); (case side3 => repeat (first | exact (zbd HO_7.out).2.2 | (with_reducible refine zal ?_ _) | (with_reducible refine zam ?_ _) | (with_reducible refine zan ?_))); (case side4 => exact (zbd HO_7.out).2.1); rintro e w' ⟨rfl, ⟨nd, rfl⟩⟩))
                                         go_roundg k4
                                         case measure => have := HJ9.out; have := HJ40.out; have := HJ85.out; have := HK4.out; omega
                                         case rel => exact ⟨(wrap64 (x178_4 + 1)), (taad), H', ⟨tabh⟩, ⟨taaf⟩, ⟨taae⟩, ⟨taag⟩, ⟨taaj⟩, ⟨taan⟩, ⟨taaa⟩⟩
                                       · replace c113 := zbg.mpr c113
                                         subst c113; have H1 : (some false) = some r := by rw [if_neg (show ¬ (false = true) by decide)] at H; exact H
                                         clear H; have H := H1; clear H1; obtain rfl := zbc H
                                         have p620 : 0 ≤ (x178_4 : Int) := zas (taab)
                                         have q620 : x178_4 < (t615.length : Int) := zas (taab)
                                         obtain ⟨ad620, A620_0, c620_0, e620, hx620_0, hl620_0, hi620_0⟩ := at_L1 (Kd.S_reads' HO_176.out).2.2 x178_4 p620 q620
                                         cases e620
                                         obtain ⟨ce620, hce620, hMe620, hcc620⟩ := Kd.S_get HO_176.out [] x178_4 p620 (taed)
                                         obtain ⟨ve620_0, rfl, ge620_0⟩ := hMe620
                                         have hv620_0 := hcc620 0 _ rfl
                                         rw [Nat.add_zero, show ((Kd.slice 3 (Kd.int .i64))).sz = 1 from rfl, Nat.mul_one] at hv620_0
                                         replace hv620_0 := zbc (hv620_0.symm.trans hx620_0)
                                         rw [hv620_0] at ge620_0
                                         have HL620_0 := zad (show Kd.R (Kd.int .i64) 3 _ _ _ _ (rd_L1 t615 x178_4) from ge620_0)
                                         clear hv620_0 ge620_0 hcc620 hce620; have HR620_0 := zad hi620_0; have HC620_0 := zad hl620_0; clear hi620_0 hl620_0; replace p620 := eq_true p620
                                         replace q620 := eq_true q620
                                         go_wp2_with (first | ((with_reducible refine zbf (f := 22) rfl ?_); refine zbl (some 184) rfl rfl Try.func22 (by kernel_rfl) rfl #[.slice A620_0 (rd_L1 t615 x178_4).length c620_0, .slice Ao12 t568.length co12] rfl (taac) ?_; (with_reducible refine (zck k4 _ _ (rd_L1 t615 x178_4) _ _ t568 true _ ?side1 ?side2 ?side3 ?side4 A102.out).mono ?_); (case side1 => repeat (first | exact (taai) | (with_reducible refine zal ?_ _) | (with_reducible refine zam ?_ _) | (with_reducible refine zan ?_))); (case side2 => exact HC620_0.out); (case side3 => repeat (first | exact (zbd HO_5.out).2.2 | (with_reducible refine zal ?_ _) | (with_reducible refine zam ?_ _) | (with_reducible refine zan ?_))); (case side4 => exact (zbd HO_5.out).2.1); rintro e w119 ⟨rfl, hb⟩; refine ⟨_, rfl, ?_⟩; have n0_ := zad (zbr (taaf) hb); have n1_ := zad (zbr (taae) hb); have n2_ := zad (zbr (taag) hb); have n3_ := zad (zbr (taaj) hb); have n4_ := zad (Kd.S_below (taan) hb); have n5_ := zad (zbr (taao) hb); have n6_ := zad (Kd.C_below (taai) hb); have n7_ := zad (zbe (taaa) hb); clear HO_5 HO_6 HO_7 HO_11 HO_176 HL620_0 HR620_0 HB; have HO_5 := n0_; have HO_6 := n1_; have HO_7 := n2_; have HO_11 := n3_; have HO_176 := n4_; have HL620_0 := n5_; have HR620_0 := n6_; have HB := n7_; clear n0_ n1_ n2_ n3_ n4_ n5_ n6_ n7_; (try clear hb); (try clear hb2); (try clear hk); (try clear hi)) | (go_at_call 22; (with_reducible refine (zck k4 _ _ (rd_L1 t615 x178_4) _ _ t569 true _ ?side1 ?side2 ?side3 ?side4 A104.out).mono ?_); (case side1 => repeat (first | exact (taai) | (with_reducible refine zal ?_ _) | (with_reducible refine zam ?_ _) | (with_reducible refine zan ?_))); (case side2 => exact HC620_0.out); (case side3 => repeat (first | exact (zbd HO_6.out).2.2 | (with_reducible refine zal ?_ _) | (with_reducible refine zam ?_ _) | (with_reducible refine zan ?_))); (case side4 => exact (zbd HO_6.out).2.1); rintro e w120 ⟨rfl, hb⟩; have n0_ := zad (zbr (taaf) hb); have n1_ := zad (zbr (taae) hb); have n2_ := zad (zbr (taag) hb); have n3_ := zad (zbr (taaj) hb); have n4_ := zad (Kd.S_below (taan) hb); have n5_ := zad (zbr (taao) hb); have n6_ := zad (Kd.C_below (taai) hb); have n7_ := zad (zbe (taaa) hb); clear HO_5 HO_6 HO_7 HO_11 HO_176 HL620_0 HR620_0 HB; have HO_5 := n0_; have HO_6 := n1_; have HO_7 := n2_; have HO_11 := n3_; have HO_176 := n4_; have HL620_0 := n5_; have HR620_0 := n6_; have HB := n7_; clear n0_ n1_ n2_ n3_ n4_ n5_ n6_ n7_; (try clear hb); (try clear hb2); (try clear hk); (try clear hi)) | (go_at_call 22; (with_reducible refine (zck k4 _ _ (rd_L1 t615 x178_4) _ _ t582 true _ ?side1 ?side2 ?side3 ?side4 A106.out).mono ?_); (case side1 => repeat (first | exact (taai) | (with_reducible refine zal ?_ _) | (with_reducible refine zam ?_ _) | (with_reducible refine zan ?_))); (case side2 => exact HC620_0.out); (case side3 => repeat (first | exact (zbd HO_11.out).2.2 | (with_reducible refine zal ?_ _) | (with_reducible refine zam ?_ _) | (with_reducible refine zan ?_))); (case side4 => exact (zbd HO_11.out).2.1); rintro e w121 ⟨rfl, hb⟩; have n0_ := zad (zbr (taaf) hb); have n1_ := zad (zbr (taae) hb); have n2_ := zad (zbr (taag) hb); have n3_ := zad (zbr (taaj) hb); have n4_ := zad (Kd.S_below (taan) hb); have n5_ := zad (zbr (taao) hb); have n6_ := zad (Kd.C_below (taai) hb); have n7_ := zad (zbe (taaa) hb); clear HO_5 HO_6 HO_7 HO_11 HO_176 HL620_0 HR620_0 HB; have HO_5 := n0_; have HO_6 := n1_; have HO_7 := n2_; have HO_11 := n3_; have HO_176 := n4_; have HL620_0 := n5_; have HR620_0 := n6_; have HB := n7_; clear n0_ n1_ n2_ n3_ n4_ n5_ n6_ n7_; (try clear hb); (try clear hb2); (try clear hk); (try clear hi)) | (go_at_call 22; (with_reducible refine (zck k4 _ _ t568 _ _ (rd_L1 t615 x178_4) true _ ?side1 ?side2 ?side3 ?side4 A108.out).mono ?_); (case side1 => repeat (first | exact (zbd HO_5.out).2.2 | (with_reducible refine zal ?_ _) | (with_reducible refine zam ?_ _) | (with_reducible refine zan ?_))); (case side2 => exact (zbd HO_5.out).2.1); (case side3 => repeat (first | exact (taai) | (with_reducible refine zal ?_ _) | (with_reducible refine zam ?_ _) | (with_reducible refine zan ?_))); (case side4 => exact HC620_0.out); rintro e w122 ⟨rfl, hb⟩; have n0_ := zad (zbr (taaf) hb); have n1_ := zad (zbr (taae) hb); have n2_ := zad (zbr (taag) hb); have n3_ := zad (zbr (taaj) hb); have n4_ := zad (Kd.S_below (taan) hb); have n5_ := zad (zbr (taao) hb); have n6_ := zad (Kd.C_below (taai) hb); have n7_ := zad (zbe (taaa) hb); clear HO_5 HO_6 HO_7 HO_11 HO_176 HL620_0 HR620_0 HB; have HO_5 := n0_; have HO_6 := n1_; have HO_7 := n2_; have HO_11 := n3_; have HO_176 := n4_; have HL620_0 := n5_; have HR620_0 := n6_; have HB := n7_; clear n0_ n1_ n2_ n3_ n4_ n5_ n6_ n7_; (try clear hb); (try clear hb2); (try clear hk); (try clear hi)) | (go_at_call 22; (with_reducible refine (zck k4 _ _ t569 _ _ (rd_L1 t615 x178_4) true _ ?side1 ?side2 ?side3 ?side4 A110.out).mono ?_); (case side1 => repeat (first | exact (zbd HO_6.out).2.2 | (with_reducible refine zal ?_ _) | (with_reducible refine zam ?_ _) | (with_reducible refine zan ?_))); (case side2 => exact (zbd HO_6.out).2.1); (case side3 => repeat (first | exact (taai) | (with_reducible refine zal ?_ _) | (with_reducible refine zam ?_ _) | (with_reducible refine zan ?_))); (case side4 => exact HC620_0.out); rintro e w123 ⟨rfl, hb⟩; have n0_ := zad (zbr (taaf) hb); have n1_ := zad (zbr (taae) hb); have n2_ := zad (zbr (taag) hb); have n3_ := zad (zbr (taaj) hb); have n4_ := zad (Kd.S_below (taan) hb); have n5_ := zad (zbr (taao) hb); have n6_ := zad (Kd.C_below (taai) hb); have n7_ := zad (zbe (taaa) hb); clear HO_5 HO_6 HO_7 HO_11 HO_176 HL620_0 HR620_0 HB; have HO_5 := n0_; have HO_6 := n1_; have HO_7 := n2_; have HO_11 := n3_; have HO_176 := n4_; have HL620_0 := n5_; have HR620_0 := n6_; have HB := n7_; clear n0_ n1_ n2_ n3_ n4_ n5_ n6_ n7_; (try clear hb); (try clear hb2); (try clear hk); (try clear hi)) | (go_at_call 20; (with_reducible refine (laws_pSame.calls k4 _ _ (rd_L1 t615 x178_4) _ _ t574 false _ ?side1 ?side2 ?side3 ?side4 A112.out).mono ?_); (case side1 => repeat (first | exact (taai) | (with_reducible refine zal ?_ _) | (with_reducible refine zam ?_ _) | (with_reducible refine zan ?_))); (case side2 => exact HC620_0.out); (case side3 => repeat (first | exact (zbd HO_7.out).2.2 | (with_reducible refine zal ?_ _) | (with_reducible refine zam ?_ _) | (with_reducible refine zan ?_))); (case side4 => exact (zbd HO_7.out).2.1); rintro e w' ⟨rfl, ⟨nd, rfl⟩⟩))
                                         go_ret
                                         exact ⟨taam, taaa⟩
                                     · replace c111 := zbg.mpr c111
                                       subst c111; have H1 : (laws_FnMeetsAndJoins.l0 k4 t568 t569 t574 t582 t615 (t615.length : Int) (wrap64 (x178_4 + 1))) = some r := by rw [if_neg (show ¬ (false = true) by decide)] at H; exact H
                                       clear H; have H := H1; clear H1; have H' := zad H
                                       clear H; have p620 : 0 ≤ (x178_4 : Int) := zas (taab)
                                       have q620 : x178_4 < (t615.length : Int) := zas (taab)
                                       obtain ⟨ad620, A620_0, c620_0, e620, hx620_0, hl620_0, hi620_0⟩ := at_L1 (Kd.S_reads' HO_176.out).2.2 x178_4 p620 q620
                                       cases e620
                                       obtain ⟨ce620, hce620, hMe620, hcc620⟩ := Kd.S_get HO_176.out [] x178_4 p620 (taed)
                                       obtain ⟨ve620_0, rfl, ge620_0⟩ := hMe620
                                       have hv620_0 := hcc620 0 _ rfl
                                       rw [Nat.add_zero, show ((Kd.slice 3 (Kd.int .i64))).sz = 1 from rfl, Nat.mul_one] at hv620_0
                                       replace hv620_0 := zbc (hv620_0.symm.trans hx620_0)
                                       rw [hv620_0] at ge620_0
                                       have HL620_0 := zad (show Kd.R (Kd.int .i64) 3 _ _ _ _ (rd_L1 t615 x178_4) from ge620_0)
                                       clear hv620_0 ge620_0 hcc620 hce620; have HR620_0 := zad hi620_0; have HC620_0 := zad hl620_0; clear hi620_0 hl620_0; replace p620 := eq_true p620
                                       replace q620 := eq_true q620
                                       go_wp2_with (first | ((with_reducible refine zbf (f := 22) rfl ?_); refine zbl (some 184) rfl rfl Try.func22 (by kernel_rfl) rfl #[.slice A620_0 (rd_L1 t615 x178_4).length c620_0, .slice Ao12 t568.length co12] rfl (taac) ?_; (with_reducible refine (zck k4 _ _ (rd_L1 t615 x178_4) _ _ t568 true _ ?side1 ?side2 ?side3 ?side4 A102.out).mono ?_); (case side1 => repeat (first | exact (taai) | (with_reducible refine zal ?_ _) | (with_reducible refine zam ?_ _) | (with_reducible refine zan ?_))); (case side2 => exact HC620_0.out); (case side3 => repeat (first | exact (zbd HO_5.out).2.2 | (with_reducible refine zal ?_ _) | (with_reducible refine zam ?_ _) | (with_reducible refine zan ?_))); (case side4 => exact (zbd HO_5.out).2.1); rintro e w124 ⟨rfl, hb⟩; refine ⟨_, rfl, ?_⟩; have n0_ := zad (zbr (taaf) hb); have n1_ := zad (zbr (taae) hb); have n2_ := zad (zbr (taag) hb); have n3_ := zad (zbr (taaj) hb); have n4_ := zad (Kd.S_below (taan) hb); have n5_ := zad (zbr (taao) hb); have n6_ := zad (Kd.C_below (taai) hb); have n7_ := zad (zbe (taaa) hb); clear HO_5 HO_6 HO_7 HO_11 HO_176 HL620_0 HR620_0 HB; have HO_5 := n0_; have HO_6 := n1_; have HO_7 := n2_; have HO_11 := n3_; have HO_176 := n4_; have HL620_0 := n5_; have HR620_0 := n6_; have HB := n7_; clear n0_ n1_ n2_ n3_ n4_ n5_ n6_ n7_; (try clear hb); (try clear hb2); (try clear hk); (try clear hi)) | (go_at_call 22; (with_reducible refine (zck k4 _ _ (rd_L1 t615 x178_4) _ _ t569 true _ ?side1 ?side2 ?side3 ?side4 A104.out).mono ?_); (case side1 => repeat (first | exact (taai) | (with_reducible refine zal ?_ _) | (with_reducible refine zam ?_ _) | (with_reducible refine zan ?_))); (case side2 => exact HC620_0.out); (case side3 => repeat (first | exact (zbd HO_6.out).2.2 | (with_reducible refine zal ?_ _) | (with_reducible refine zam ?_ _) | (with_reducible refine zan ?_))); (case side4 => exact (zbd HO_6.out).2.1); rintro e w125 ⟨rfl, hb⟩; have n0_ := zad (zbr (taaf) hb); have n1_ := zad (zbr (taae) hb); have n2_ := zad (zbr (taag) hb); have n3_ := zad (zbr (taaj) hb); have n4_ := zad (Kd.S_below (taan) hb); have n5_ := zad (zbr (taao) hb); have n6_ := zad (Kd.C_below (taai) hb); have n7_ := zad (zbe (taaa) hb); clear HO_5 HO_6 HO_7 HO_11 HO_176 HL620_0 HR620_0 HB; have HO_5 := n0_; have HO_6 := n1_; have HO_7 := n2_; have HO_11 := n3_; have HO_176 := n4_; have HL620_0 := n5_; have HR620_0 := n6_; have HB := n7_; clear n0_ n1_ n2_ n3_ n4_ n5_ n6_ n7_; (try clear hb); (try clear hb2); (try clear hk); (try clear hi)) | (go_at_call 22; (with_reducible refine (zck k4 _ _ (rd_L1 t615 x178_4) _ _ t582 true _ ?side1 ?side2 ?side3 ?side4 A106.out).mono ?_); (case side1 => repeat (first | exact (taai) | (with_reducible refine zal ?_ _) | (with_reducible refine zam ?_ _) | (with_reducible refine zan ?_))); (case side2 => exact HC620_0.out); (case side3 => repeat (first | exact (zbd HO_11.out).2.2 | (with_reducible refine zal ?_ _) | (with_reducible refine zam ?_ _) | (with_reducible refine zan ?_))); (case side4 => exact (zbd HO_11.out).2.1); rintro e w126 ⟨rfl, hb⟩; have n0_ := zad (zbr (taaf) hb); have n1_ := zad (zbr (taae) hb); have n2_ := zad (zbr (taag) hb); have n3_ := zad (zbr (taaj) hb); have n4_ := zad (Kd.S_below (taan) hb); have n5_ := zad (zbr (taao) hb); have n6_ := zad (Kd.C_below (taai) hb); have n7_ := zad (zbe (taaa) hb); clear HO_5 HO_6 HO_7 HO_11 HO_176 HL620_0 HR620_0 HB; have HO_5 := n0_; have HO_6 := n1_; have HO_7 := n2_; have HO_11 := n3_; have HO_176 := n4_; have HL620_0 := n5_; have HR620_0 := n6_; have HB := n7_; clear n0_ n1_ n2_ n3_ n4_ n5_ n6_ n7_; (try clear hb); (try clear hb2); (try clear hk); (try clear hi)) | (go_at_call 22; (with_reducible refine (zck k4 _ _ t568 _ _ (rd_L1 t615 x178_4) true _ ?side1 ?side2 ?side3 ?side4 A108.out).mono ?_); (case side1 => repeat (first | exact (zbd HO_5.out).2.2 | (with_reducible refine zal ?_ _) | (with_reducible refine zam ?_ _) | (with_reducible refine zan ?_))); (case side2 => exact (zbd HO_5.out).2.1); (case side3 => repeat (first | exact (taai) | (with_reducible refine zal ?_ _) | (with_reducible refine zam ?_ _) | (with_reducible refine zan ?_))); (case side4 => exact HC620_0.out); rintro e w127 ⟨rfl, hb⟩; have n0_ := zad (zbr (taaf) hb); have n1_ := zad (zbr (taae) hb); have n2_ := zad (zbr (taag) hb); have n3_ := zad (zbr (taaj) hb); have n4_ := zad (Kd.S_below (taan) hb); have n5_ := zad (zbr (taao) hb); have n6_ := zad (Kd.C_below (taai) hb); have n7_ := zad (zbe (taaa) hb); clear HO_5 HO_6 HO_7 HO_11 HO_176 HL620_0 HR620_0 HB; have HO_5 := n0_; have HO_6 := n1_; have HO_7 := n2_; have HO_11 := n3_; have HO_176 := n4_; have HL620_0 := n5_; have HR620_0 := n6_; have HB := n7_; clear n0_ n1_ n2_ n3_ n4_ n5_ n6_ n7_; (try clear hb); (try clear hb2); (try clear hk); (try clear hi)) | (go_at_call 22; (with_reducible refine (zck k4 _ _ t569 _ _ (rd_L1 t615 x178_4) false _ ?side1 ?side2 ?side3 ?side4 A110.out).mono ?_); (case side1 => repeat (first | exact (zbd HO_6.out).2.2 | (with_reducible refine zal ?_ _) | (with_reducible refine zam ?_ _) | (with_reducible refine zan ?_))); (case side2 => exact (zbd HO_6.out).2.1); (case side3 => repeat (first | exact (taai) | (with_reducible refine zal ?_ _) | (with_reducible refine zam ?_ _) | (with_reducible refine zan ?_))); (case side4 => exact HC620_0.out); rintro e w128 ⟨rfl, hb⟩; have n0_ := zad (zbr (taaf) hb); have n1_ := zad (zbr (taae) hb); have n2_ := zad (zbr (taag) hb); have n3_ := zad (zbr (taaj) hb); have n4_ := zad (Kd.S_below (taan) hb); have n5_ := zad (zbr (taao) hb); have n6_ := zad (Kd.C_below (taai) hb); have n7_ := zad (zbe (taaa) hb); clear HO_5 HO_6 HO_7 HO_11 HO_176 HL620_0 HR620_0 HB; have HO_5 := n0_; have HO_6 := n1_; have HO_7 := n2_; have HO_11 := n3_; have HO_176 := n4_; have HL620_0 := n5_; have HR620_0 := n6_; have HB := n7_; clear n0_ n1_ n2_ n3_ n4_ n5_ n6_ n7_; (try clear hb); (try clear hb2); (try clear hk); (try clear hi)))
                                       go_roundg k4
                                       case measure => have := HJ9.out; have := HJ40.out; have := HJ85.out; have := HK4.out; omega
                                       case rel => exact ⟨(wrap64 (x178_4 + 1)), (taad), H', ⟨tabh⟩, ⟨taaf⟩, ⟨taae⟩, ⟨taag⟩, ⟨taaj⟩, ⟨taan⟩, ⟨taaa⟩⟩
                                   · replace c109 := zbg.mpr c109
                                     subst c109; have H1 : (laws_FnMeetsAndJoins.l0 k4 t568 t569 t574 t582 t615 (t615.length : Int) (wrap64 (x178_4 + 1))) = some r := by rw [if_neg (show ¬ (false = true) by decide)] at H; exact H
                                     clear H; have H := H1; clear H1; have H' := zad H
                                     clear H; have p620 : 0 ≤ (x178_4 : Int) := zas (taab)
                                     have q620 : x178_4 < (t615.length : Int) := zas (taab)
                                     obtain ⟨ad620, A620_0, c620_0, e620, hx620_0, hl620_0, hi620_0⟩ := at_L1 (Kd.S_reads' HO_176.out).2.2 x178_4 p620 q620
                                     cases e620
                                     obtain ⟨ce620, hce620, hMe620, hcc620⟩ := Kd.S_get HO_176.out [] x178_4 p620 (taed)
                                     obtain ⟨ve620_0, rfl, ge620_0⟩ := hMe620
                                     have hv620_0 := hcc620 0 _ rfl
                                     rw [Nat.add_zero, show ((Kd.slice 3 (Kd.int .i64))).sz = 1 from rfl, Nat.mul_one] at hv620_0
                                     replace hv620_0 := zbc (hv620_0.symm.trans hx620_0)
                                     rw [hv620_0] at ge620_0
                                     have HL620_0 := zad (show Kd.R (Kd.int .i64) 3 _ _ _ _ (rd_L1 t615 x178_4) from ge620_0)
                                     clear hv620_0 ge620_0 hcc620 hce620; have HR620_0 := zad hi620_0; have HC620_0 := zad hl620_0; clear hi620_0 hl620_0; replace p620 := eq_true p620
                                     replace q620 := eq_true q620
                                     go_wp2_with (first | ((with_reducible refine zbf (f := 22) rfl ?_); refine zbl (some 184) rfl rfl Try.func22 (by kernel_rfl) rfl #[.slice A620_0 (rd_L1 t615 x178_4).length c620_0, .slice Ao12 t568.length co12] rfl (taac) ?_; (with_reducible refine (zck k4 _ _ (rd_L1 t615 x178_4) _ _ t568 true _ ?side1 ?side2 ?side3 ?side4 A102.out).mono ?_); (case side1 => repeat (first | exact (taai) | (with_reducible refine zal ?_ _) | (with_reducible refine zam ?_ _) | (with_reducible refine zan ?_))); (case side2 => exact HC620_0.out); (case side3 => repeat (first | exact (zbd HO_5.out).2.2 | (with_reducible refine zal ?_ _) | (with_reducible refine zam ?_ _) | (with_reducible refine zan ?_))); (case side4 => exact (zbd HO_5.out).2.1); rintro e w129 ⟨rfl, hb⟩; refine ⟨_, rfl, ?_⟩; have n0_ := zad (zbr (taaf) hb); have n1_ := zad (zbr (taae) hb); have n2_ := zad (zbr (taag) hb); have n3_ := zad (zbr (taaj) hb); have n4_ := zad (Kd.S_below (taan) hb); have n5_ := zad (zbr (taao) hb); have n6_ := zad (Kd.C_below (taai) hb); have n7_ := zad (zbe (taaa) hb); clear HO_5 HO_6 HO_7 HO_11 HO_176 HL620_0 HR620_0 HB; have HO_5 := n0_; have HO_6 := n1_; have HO_7 := n2_; have HO_11 := n3_; have HO_176 := n4_; have HL620_0 := n5_; have HR620_0 := n6_; have HB := n7_; clear n0_ n1_ n2_ n3_ n4_ n5_ n6_ n7_; (try clear hb); (try clear hb2); (try clear hk); (try clear hi)) | (go_at_call 22; (with_reducible refine (zck k4 _ _ (rd_L1 t615 x178_4) _ _ t569 true _ ?side1 ?side2 ?side3 ?side4 A104.out).mono ?_); (case side1 => repeat (first | exact (taai) | (with_reducible refine zal ?_ _) | (with_reducible refine zam ?_ _) | (with_reducible refine zan ?_))); (case side2 => exact HC620_0.out); (case side3 => repeat (first | exact (zbd HO_6.out).2.2 | (with_reducible refine zal ?_ _) | (with_reducible refine zam ?_ _) | (with_reducible refine zan ?_))); (case side4 => exact (zbd HO_6.out).2.1); rintro e w130 ⟨rfl, hb⟩; have n0_ := zad (zbr (taaf) hb); have n1_ := zad (zbr (taae) hb); have n2_ := zad (zbr (taag) hb); have n3_ := zad (zbr (taaj) hb); have n4_ := zad (Kd.S_below (taan) hb); have n5_ := zad (zbr (taao) hb); have n6_ := zad (Kd.C_below (taai) hb); have n7_ := zad (zbe (taaa) hb); clear HO_5 HO_6 HO_7 HO_11 HO_176 HL620_0 HR620_0 HB; have HO_5 := n0_; have HO_6 := n1_; have HO_7 := n2_; have HO_11 := n3_; have HO_176 := n4_; have HL620_0 := n5_; have HR620_0 := n6_; have HB := n7_; clear n0_ n1_ n2_ n3_ n4_ n5_ n6_ n7_; (try clear hb); (try clear hb2); (try clear hk); (try clear hi)) | (go_at_call 22; (with_reducible refine (zck k4 _ _ (rd_L1 t615 x178_4) _ _ t582 true _ ?side1 ?side2 ?side3 ?side4 A106.out).mono ?_); (case side1 => repeat (first | exact (taai) | (with_reducible refine zal ?_ _) | (with_reducible refine zam ?_ _) | (with_reducible refine zan ?_))); (case side2 => exact HC620_0.out); (case side3 => repeat (first | exact (zbd HO_11.out).2.2 | (with_reducible refine zal ?_ _) | (with_reducible refine zam ?_ _) | (with_reducible refine zan ?_))); (case side4 => exact (zbd HO_11.out).2.1); rintro e w131 ⟨rfl, hb⟩; have n0_ := zad (zbr (taaf) hb); have n1_ := zad (zbr (taae) hb); have n2_ := zad (zbr (taag) hb); have n3_ := zad (zbr (taaj) hb); have n4_ := zad (Kd.S_below (taan) hb); have n5_ := zad (zbr (taao) hb); have n6_ := zad (Kd.C_below (taai) hb); have n7_ := zad (zbe (taaa) hb); clear HO_5 HO_6 HO_7 HO_11 HO_176 HL620_0 HR620_0 HB; have HO_5 := n0_; have HO_6 := n1_; have HO_7 := n2_; have HO_11 := n3_; have HO_176 := n4_; have HL620_0 := n5_; have HR620_0 := n6_; have HB := n7_; clear n0_ n1_ n2_ n3_ n4_ n5_ n6_ n7_; (try clear hb); (try clear hb2); (try clear hk); (try clear hi)) | (go_at_call 22; (with_reducible refine (zck k4 _ _ t568 _ _ (rd_L1 t615 x178_4) false _ ?side1 ?side2 ?side3 ?side4 A108.out).mono ?_); (case side1 => repeat (first | exact (zbd HO_5.out).2.2 | (with_reducible refine zal ?_ _) | (with_reducible refine zam ?_ _) | (with_reducible refine zan ?_))); (case side2 => exact (zbd HO_5.out).2.1); (case side3 => repeat (first | exact (taai) | (with_reducible refine zal ?_ _) | (with_reducible refine zam ?_ _) | (with_reducible refine zan ?_))); (case side4 => exact HC620_0.out); rintro e w132 ⟨rfl, hb⟩; have n0_ := zad (zbr (taaf) hb); have n1_ := zad (zbr (taae) hb); have n2_ := zad (zbr (taag) hb); have n3_ := zad (zbr (taaj) hb); have n4_ := zad (Kd.S_below (taan) hb); have n5_ := zad (zbr (taao) hb); have n6_ := zad (Kd.C_below (taai) hb); have n7_ := zad (zbe (taaa) hb); clear HO_5 HO_6 HO_7 HO_11 HO_176 HL620_0 HR620_0 HB; have HO_5 := n0_; have HO_6 := n1_; have HO_7 := n2_; have HO_11 := n3_; have HO_176 := n4_; have HL620_0 := n5_; have HR620_0 := n6_; have HB := n7_; clear n0_ n1_ n2_ n3_ n4_ n5_ n6_ n7_; (try clear hb); (try clear hb2); (try clear hk); (try clear hi)))
                                     go_roundg k4
                                     case measure => have := HJ9.out; have := HJ40.out; have := HJ85.out; have := HK4.out; omega
                                     case rel => exact ⟨(wrap64 (x178_4 + 1)), (taad), H', ⟨tabh⟩, ⟨taaf⟩, ⟨taae⟩, ⟨taag⟩, ⟨taaj⟩, ⟨taan⟩, ⟨taaa⟩⟩
                                 · replace c107 := zbg.mpr c107
                                   subst c107; have H1 : (some false) = some r := by rw [if_neg (show ¬ (false = true) by decide)] at H; exact H
                                   clear H; have H := H1; clear H1; obtain rfl := zbc H
                                   have p620 : 0 ≤ (x178_4 : Int) := zas (taab)
                                   have q620 : x178_4 < (t615.length : Int) := zas (taab)
                                   obtain ⟨ad620, A620_0, c620_0, e620, hx620_0, hl620_0, hi620_0⟩ := at_L1 (Kd.S_reads' HO_176.out).2.2 x178_4 p620 q620
                                   cases e620
                                   obtain ⟨ce620, hce620, hMe620, hcc620⟩ := Kd.S_get HO_176.out [] x178_4 p620 (taed)
                                   obtain ⟨ve620_0, rfl, ge620_0⟩ := hMe620
                                   have hv620_0 := hcc620 0 _ rfl
                                   rw [Nat.add_zero, show ((Kd.slice 3 (Kd.int .i64))).sz = 1 from rfl, Nat.mul_one] at hv620_0
                                   replace hv620_0 := zbc (hv620_0.symm.trans hx620_0)
                                   rw [hv620_0] at ge620_0
                                   have HL620_0 := zad (show Kd.R (Kd.int .i64) 3 _ _ _ _ (rd_L1 t615 x178_4) from ge620_0)
                                   clear hv620_0 ge620_0 hcc620 hce620; have HR620_0 := zad hi620_0; have HC620_0 := zad hl620_0; clear hi620_0 hl620_0; replace p620 := eq_true p620
                                   replace q620 := eq_true q620
                                   go_wp2_with (first | ((with_reducible refine zbf (f := 22) rfl ?_); refine zbl (some 184) rfl rfl Try.func22 (by kernel_rfl) rfl #[.slice A620_0 (rd_L1 t615 x178_4).length c620_0, .slice Ao12 t568.length co12] rfl (taac) ?_; (with_reducible refine (zck k4 _ _ (rd_L1 t615 x178_4) _ _ t568 true _ ?side1 ?side2 ?side3 ?side4 A102.out).mono ?_); (case side1 => repeat (first | exact (taai) | (with_reducible refine zal ?_ _) | (with_reducible refine zam ?_ _) | (with_reducible refine zan ?_))); (case side2 => exact HC620_0.out); (case side3 => repeat (first | exact (zbd HO_5.out).2.2 | (with_reducible refine zal ?_ _) | (with_reducible refine zam ?_ _) | (with_reducible refine zan ?_))); (case side4 => exact (zbd HO_5.out).2.1); rintro e w133 ⟨rfl, hb⟩; refine ⟨_, rfl, ?_⟩; have n0_ := zad (zbr (taaf) hb); have n1_ := zad (zbr (taae) hb); have n2_ := zad (zbr (taag) hb); have n3_ := zad (zbr (taaj) hb); have n4_ := zad (Kd.S_below (taan) hb); have n5_ := zad (zbr (taao) hb); have n6_ := zad (Kd.C_below (taai) hb); have n7_ := zad (zbe (taaa) hb); clear HO_5 HO_6 HO_7 HO_11 HO_176 HL620_0 HR620_0 HB; have HO_5 := n0_; have HO_6 := n1_; have HO_7 := n2_; have HO_11 := n3_; have HO_176 := n4_; have HL620_0 := n5_; have HR620_0 := n6_; have HB := n7_; clear n0_ n1_ n2_ n3_ n4_ n5_ n6_ n7_; (try clear hb); (try clear hb2); (try clear hk); (try clear hi)) | (go_at_call 22; (with_reducible refine (zck k4 _ _ (rd_L1 t615 x178_4) _ _ t569 true _ ?side1 ?side2 ?side3 ?side4 A104.out).mono ?_); (case side1 => repeat (first | exact (taai) | (with_reducible refine zal ?_ _) | (with_reducible refine zam ?_ _) | (with_reducible refine zan ?_))); (case side2 => exact HC620_0.out); (case side3 => repeat (first | exact (zbd HO_6.out).2.2 | (with_reducible refine zal ?_ _) | (with_reducible refine zam ?_ _) | (with_reducible refine zan ?_))); (case side4 => exact (zbd HO_6.out).2.1); rintro e w134 ⟨rfl, hb⟩; have n0_ := zad (zbr (taaf) hb); have n1_ := zad (zbr (taae) hb); have n2_ := zad (zbr (taag) hb); have n3_ := zad (zbr (taaj) hb); have n4_ := zad (Kd.S_below (taan) hb); have n5_ := zad (zbr (taao) hb); have n6_ := zad (Kd.C_below (taai) hb); have n7_ := zad (zbe (taaa) hb); clear HO_5 HO_6 HO_7 HO_11 HO_176 HL620_0 HR620_0 HB; have HO_5 := n0_; have HO_6 := n1_; have HO_7 := n2_; have HO_11 := n3_; have HO_176 := n4_; have HL620_0 := n5_; have HR620_0 := n6_; have HB := n7_; clear n0_ n1_ n2_ n3_ n4_ n5_ n6_ n7_; (try clear hb); (try clear hb2); (try clear hk); (try clear hi)) | (go_at_call 22; (with_reducible refine (zck k4 _ _ (rd_L1 t615 x178_4) _ _ t582 false _ ?side1 ?side2 ?side3 ?side4 A106.out).mono ?_); (case side1 => repeat (first | exact (taai) | (with_reducible refine zal ?_ _) | (with_reducible refine zam ?_ _) | (with_reducible refine zan ?_))); (case side2 => exact HC620_0.out); (case side3 => repeat (first | exact (zbd HO_11.out).2.2 | (with_reducible refine zal ?_ _) | (with_reducible refine zam ?_ _) | (with_reducible refine zan ?_))); (case side4 => exact (zbd HO_11.out).2.1); rintro e w135 ⟨rfl, hb⟩; have n0_ := zad (zbr (taaf) hb); have n1_ := zad (zbr (taae) hb); have n2_ := zad (zbr (taag) hb); have n3_ := zad (zbr (taaj) hb); have n4_ := zad (Kd.S_below (taan) hb); have n5_ := zad (zbr (taao) hb); have n6_ := zad (Kd.C_below (taai) hb); have n7_ := zad (zbe (taaa) hb); clear HO_5 HO_6 HO_7 HO_11 HO_176 HL620_0 HR620_0 HB; have HO_5 := n0_; have HO_6 := n1_; have HO_7 := n2_; have HO_11 := n3_; have HO_176 := n4_; have HL620_0 := n5_; have HR620_0 := n6_; have HB := n7_; clear n0_ n1_ n2_ n3_ n4_ n5_ n6_ n7_; (try clear hb); (try clear hb2); (try clear hk); (try clear hi)))
                                   go_ret
                                   exact ⟨taam, taaa⟩
                               · replace c105 := zbg.mpr c105
                                 subst c105; have H1 : ((laws_pBelow.f k4 t568 (rd_L1 t615 x178_4)).bind fun t627 => (if t627 = true then ((laws_pBelow.f k4 t569 (rd_L1 t615 x178_4)).bind fun t628 => (if t628 = true then ((laws_pSame.f k4 (rd_L1 t615 x178_4) t574).bind fun t629 => (if t629 = true then (laws_FnMeetsAndJoins.l0 k4 t568 t569 t574 t582 t615 (t615.length : Int) (wrap64 (x178_4 + 1))) else (some false))) else (laws_FnMeetsAndJoins.l0 k4 t568 t569 t574 t582 t615 (t615.length : Int) (wrap64 (x178_4 + 1))))) else (laws_FnMeetsAndJoins.l0 k4 t568 t569 t574 t582 t615 (t615.length : Int) (wrap64 (x178_4 + 1))))) = some r := by rw [if_neg (show ¬ (false = true) by decide)] at H; exact H
                                 clear H; have H := H1; clear H1; replace H := zay.mp H; obtain ⟨t627, A1360, H⟩ := H
                                 replace H : (if t627 = true then ((laws_pBelow.f k4 t569 (rd_L1 t615 x178_4)).bind fun t628 => (if t628 = true then ((laws_pSame.f k4 (rd_L1 t615 x178_4) t574).bind fun t629 => (if t629 = true then (laws_FnMeetsAndJoins.l0 k4 t568 t569 t574 t582 t615 (t615.length : Int) (wrap64 (x178_4 + 1))) else (some false))) else (laws_FnMeetsAndJoins.l0 k4 t568 t569 t574 t582 t615 (t615.length : Int) (wrap64 (x178_4 + 1))))) else (laws_FnMeetsAndJoins.l0 k4 t568 t569 t574 t582 t615 (t615.length : Int) (wrap64 (x178_4 + 1)))) = some r := H
                                 have A136 := zad A1360; clear A1360; by_cases c137 : t627 = true
                                 · subst c137
                                   have H1 : ((laws_pBelow.f k4 t569 (rd_L1 t615 x178_4)).bind fun t628 => (if t628 = true then ((laws_pSame.f k4 (rd_L1 t615 x178_4) t574).bind fun t629 => (if t629 = true then (laws_FnMeetsAndJoins.l0 k4 t568 t569 t574 t582 t615 (t615.length : Int) (wrap64 (x178_4 + 1))) else (some false))) else (laws_FnMeetsAndJoins.l0 k4 t568 t569 t574 t582 t615 (t615.length : Int) (wrap64 (x178_4 + 1))))) = some r := by rw [if_pos rfl] at H; exact H
                                   clear H; have H := H1; clear H1; replace H := zay.mp H; obtain ⟨t628, A1380, H⟩ := H
                                   replace H : (if t628 = true then ((laws_pSame.f k4 (rd_L1 t615 x178_4) t574).bind fun t629 => (if t629 = true then (laws_FnMeetsAndJoins.l0 k4 t568 t569 t574 t582 t615 (t615.length : Int) (wrap64 (x178_4 + 1))) else (some false))) else (laws_FnMeetsAndJoins.l0 k4 t568 t569 t574 t582 t615 (t615.length : Int) (wrap64 (x178_4 + 1)))) = some r := H
                                   have A138 := zad A1380; clear A1380; by_cases c139 : t628 = true
                                   · subst c139
                                     have H1 : ((laws_pSame.f k4 (rd_L1 t615 x178_4) t574).bind fun t629 => (if t629 = true then (laws_FnMeetsAndJoins.l0 k4 t568 t569 t574 t582 t615 (t615.length : Int) (wrap64 (x178_4 + 1))) else (some false))) = some r := by rw [if_pos rfl] at H; exact H
                                     clear H; have H := H1; clear H1; replace H := zay.mp H; obtain ⟨t629, A1400, H⟩ := H
                                     replace H : (if t629 = true then (laws_FnMeetsAndJoins.l0 k4 t568 t569 t574 t582 t615 (t615.length : Int) (wrap64 (x178_4 + 1))) else (some false)) = some r := H
                                     have A140 := zad A1400; clear A1400; by_cases c141 : t629 = true
                                     · subst c141
                                       have H1 : (laws_FnMeetsAndJoins.l0 k4 t568 t569 t574 t582 t615 (t615.length : Int) (wrap64 (x178_4 + 1))) = some r := by rw [if_pos rfl] at H; exact H
                                       clear H; have H := H1; clear H1; have H' := zad H
                                       clear H; have p620 : 0 ≤ (x178_4 : Int) := zas (taab)
                                       have q620 : x178_4 < (t615.length : Int) := zas (taab)
                                       obtain ⟨ad620, A620_0, c620_0, e620, hx620_0, hl620_0, hi620_0⟩ := at_L1 (Kd.S_reads' HO_176.out).2.2 x178_4 p620 q620
                                       cases e620
                                       obtain ⟨ce620, hce620, hMe620, hcc620⟩ := Kd.S_get HO_176.out [] x178_4 p620 (taed)
                                       obtain ⟨ve620_0, rfl, ge620_0⟩ := hMe620
                                       have hv620_0 := hcc620 0 _ rfl
                                       rw [Nat.add_zero, show ((Kd.slice 3 (Kd.int .i64))).sz = 1 from rfl, Nat.mul_one] at hv620_0
                                       replace hv620_0 := zbc (hv620_0.symm.trans hx620_0)
                                       rw [hv620_0] at ge620_0
                                       have HL620_0 := zad (show Kd.R (Kd.int .i64) 3 _ _ _ _ (rd_L1 t615 x178_4) from ge620_0)
                                       clear hv620_0 ge620_0 hcc620 hce620; have HR620_0 := zad hi620_0; have HC620_0 := zad hl620_0; clear hi620_0 hl620_0; replace p620 := eq_true p620
                                       replace q620 := eq_true q620
                                       go_wp2_with (first | ((with_reducible refine zbf (f := 22) rfl ?_); refine zbl (some 184) rfl rfl Try.func22 (by kernel_rfl) rfl #[.slice A620_0 (rd_L1 t615 x178_4).length c620_0, .slice Ao12 t568.length co12] rfl (taac) ?_; (with_reducible refine (zck k4 _ _ (rd_L1 t615 x178_4) _ _ t568 true _ ?side1 ?side2 ?side3 ?side4 A102.out).mono ?_); (case side1 => repeat (first | exact (taai) | (with_reducible refine zal ?_ _) | (with_reducible refine zam ?_ _) | (with_reducible refine zan ?_))); (case side2 => exact HC620_0.out); (case side3 => repeat (first | exact (zbd HO_5.out).2.2 | (with_reducible refine zal ?_ _) | (with_reducible refine zam ?_ _) | (with_reducible refine zan ?_))); (case side4 => exact (zbd HO_5.out).2.1); rintro e w142 ⟨rfl, hb⟩; refine ⟨_, rfl, ?_⟩; have n0_ := zad (zbr (taaf) hb); have n1_ := zad (zbr (taae) hb); have n2_ := zad (zbr (taag) hb); have n3_ := zad (zbr (taaj) hb); have n4_ := zad (Kd.S_below (taan) hb); have n5_ := zad (zbr (taao) hb); have n6_ := zad (Kd.C_below (taai) hb); have n7_ := zad (zbe (taaa) hb); clear HO_5 HO_6 HO_7 HO_11 HO_176 HL620_0 HR620_0 HB; have HO_5 := n0_; have HO_6 := n1_; have HO_7 := n2_; have HO_11 := n3_; have HO_176 := n4_; have HL620_0 := n5_; have HR620_0 := n6_; have HB := n7_; clear n0_ n1_ n2_ n3_ n4_ n5_ n6_ n7_; (try clear hb); (try clear hb2); (try clear hk); (try clear hi)) | (go_at_call 22; (with_reducible refine (zck k4 _ _ (rd_L1 t615 x178_4) _ _ t569 false _ ?side1 ?side2 ?side3 ?side4 A104.out).mono ?_); (case side1 => repeat (first | exact (taai) | (with_reducible refine zal ?_ _) | (with_reducible refine zam ?_ _) | (with_reducible refine zan ?_))); (case side2 => exact HC620_0.out); (case side3 => repeat (first | exact (zbd HO_6.out).2.2 | (with_reducible refine zal ?_ _) | (with_reducible refine zam ?_ _) | (with_reducible refine zan ?_))); (case side4 => exact (zbd HO_6.out).2.1); rintro e w143 ⟨rfl, hb⟩; have n0_ := zad (zbr (taaf) hb); have n1_ := zad (zbr (taae) hb); have n2_ := zad (zbr (taag) hb); have n3_ := zad (zbr (taaj) hb); have n4_ := zad (Kd.S_below (taan) hb); have n5_ := zad (zbr (taao) hb); have n6_ := zad (Kd.C_below (taai) hb); have n7_ := zad (zbe (taaa) hb); clear HO_5 HO_6 HO_7 HO_11 HO_176 HL620_0 HR620_0 HB; have HO_5 := n0_; have HO_6 := n1_; have HO_7 := n2_; have HO_11 := n3_; have HO_176 := n4_; have HL620_0 := n5_; have HR620_0 := n6_; have HB := n7_; clear n0_ n1_ n2_ n3_ n4_ n5_ n6_ n7_; (try clear hb); (try clear hb2); (try clear hk); (try clear hi)) | (go_at_call 22; (with_reducible refine (zck k4 _ _ t568 _ _ (rd_L1 t615 x178_4) true _ ?side1 ?side2 ?side3 ?side4 A136.out).mono ?_); (case side1 => repeat (first | exact (zbd HO_5.out).2.2 | (with_reducible refine zal ?_ _) | (with_reducible refine zam ?_ _) | (with_reducible refine zan ?_))); (case side2 => exact (zbd HO_5.out).2.1); (case side3 => repeat (first | exact (taai) | (with_reducible refine zal ?_ _) | (with_reducible refine zam ?_ _) | (with_reducible refine zan ?_))); (case side4 => exact HC620_0.out); rintro e w144 ⟨rfl, hb⟩; have n0_ := zad (zbr (taaf) hb); have n1_ := zad (zbr (taae) hb); have n2_ := zad (zbr (taag) hb); have n3_ := zad (zbr (taaj) hb); have n4_ := zad (Kd.S_below (taan) hb); have n5_ := zad (zbr (taao) hb); have n6_ := zad (Kd.C_below (taai) hb); have n7_ := zad (zbe (taaa) hb); clear HO_5 HO_6 HO_7 HO_11 HO_176 HL620_0 HR620_0 HB; have HO_5 := n0_; have HO_6 := n1_; have HO_7 := n2_; have HO_11 := n3_; have HO_176 := n4_; have HL620_0 := n5_; have HR620_0 := n6_; have HB := n7_; clear n0_ n1_ n2_ n3_ n4_ n5_ n6_ n7_; (try clear hb); (try clear hb2); (try clear hk); (try clear hi)) | (go_at_call 22; (with_reducible refine (zck k4 _ _ t569 _ _ (rd_L1 t615 x178_4) true _ ?side1 ?side2 ?side3 ?side4 A138.out).mono ?_); (case side1 => repeat (first | exact (zbd HO_6.out).2.2 | (with_reducible refine zal ?_ _) | (with_reducible refine zam ?_ _) | (with_reducible refine zan ?_))); (case side2 => exact (zbd HO_6.out).2.1); (case side3 => repeat (first | exact (taai) | (with_reducible refine zal ?_ _) | (with_reducible refine zam ?_ _) | (with_reducible refine zan ?_))); (case side4 => exact HC620_0.out); rintro e w145 ⟨rfl, hb⟩; have n0_ := zad (zbr (taaf) hb); have n1_ := zad (zbr (taae) hb); have n2_ := zad (zbr (taag) hb); have n3_ := zad (zbr (taaj) hb); have n4_ := zad (Kd.S_below (taan) hb); have n5_ := zad (zbr (taao) hb); have n6_ := zad (Kd.C_below (taai) hb); have n7_ := zad (zbe (taaa) hb); clear HO_5 HO_6 HO_7 HO_11 HO_176 HL620_0 HR620_0 HB; have HO_5 := n0_; have HO_6 := n1_; have HO_7 := n2_; have HO_11 := n3_; have HO_176 := n4_; have HL620_0 := n5_; have HR620_0 := n6_; have HB := n7_; clear n0_ n1_ n2_ n3_ n4_ n5_ n6_ n7_; (try clear hb); (try clear hb2); (try clear hk); (try clear hi)) | (go_at_call 20; (with_reducible refine (laws_pSame.calls k4 _ _ (rd_L1 t615 x178_4) _ _ t574 true _ ?side1 ?side2 ?side3 ?side4 A140.out).mono ?_); (case side1 => repeat (first | exact (taai) | (with_reducible refine zal ?_ _) | (with_reducible refine zam ?_ _) | (with_reducible refine zan ?_))); (case side2 => exact HC620_0.out); (case side3 => repeat (first | exact (zbd HO_7.out).2.2 | (with_reducible refine zal ?_ _) | (with_reducible refine zam ?_ _) | (with_reducible refine zan ?_))); (case side4 => exact (zbd HO_7.out).2.1); rintro e w' ⟨rfl, ⟨nd, rfl⟩⟩))
                                       go_roundg k4
                                       case measure => have := HJ9.out; have := HJ40.out; have := HJ85.out; have := HK4.out; omega
                                       case rel => exact ⟨(wrap64 (x178_4 + 1)), (taad), H', ⟨tabh⟩, ⟨taaf⟩, ⟨taae⟩, ⟨taag⟩, ⟨taaj⟩, ⟨taan⟩, ⟨taaa⟩⟩
                                     · replace c141 := zbg.mpr c141
                                       subst c141; have H1 : (some false) = some r := by rw [if_neg (show ¬ (false = true) by decide)] at H; exact H
                                       clear H; have H := H1; clear H1; obtain rfl := zbc H
                                       have p620 : 0 ≤ (x178_4 : Int) := zas (taab)
                                       have q620 : x178_4 < (t615.length : Int) := zas (taab)
                                       obtain ⟨ad620, A620_0, c620_0, e620, hx620_0, hl620_0, hi620_0⟩ := at_L1 (Kd.S_reads' HO_176.out).2.2 x178_4 p620 q620
                                       cases e620
                                       obtain ⟨ce620, hce620, hMe620, hcc620⟩ := Kd.S_get HO_176.out [] x178_4 p620 (taed)
                                       obtain ⟨ve620_0, rfl, ge620_0⟩ := hMe620
                                       have hv620_0 := hcc620 0 _ rfl
                                       rw [Nat.add_zero, show ((Kd.slice 3 (Kd.int .i64))).sz = 1 from rfl, Nat.mul_one] at hv620_0
                                       replace hv620_0 := zbc (hv620_0.symm.trans hx620_0)
                                       rw [hv620_0] at ge620_0
                                       have HL620_0 := zad (show Kd.R (Kd.int .i64) 3 _ _ _ _ (rd_L1 t615 x178_4) from ge620_0)
                                       clear hv620_0 ge620_0 hcc620 hce620; have HR620_0 := zad hi620_0; have HC620_0 := zad hl620_0; clear hi620_0 hl620_0; replace p620 := eq_true p620
                                       replace q620 := eq_true q620
                                       go_wp2_with (first | ((with_reducible refine zbf (f := 22) rfl ?_); refine zbl (some 184) rfl rfl Try.func22 (by kernel_rfl) rfl #[.slice A620_0 (rd_L1 t615 x178_4).length c620_0, .slice Ao12 t568.length co12] rfl (taac) ?_; (with_reducible refine (zck k4 _ _ (rd_L1 t615 x178_4) _ _ t568 true _ ?side1 ?side2 ?side3 ?side4 A102.out).mono ?_); (case side1 => repeat (first | exact (taai) | (with_reducible refine zal ?_ _) | (with_reducible refine zam ?_ _) | (with_reducible refine zan ?_))); (case side2 => exact HC620_0.out); (case side3 => repeat (first | exact (zbd HO_5.out).2.2 | (with_reducible refine zal ?_ _) | (with_reducible refine zam ?_ _) | (with_reducible refine zan ?_))); (case side4 => exact (zbd HO_5.out).2.1); rintro e w146 ⟨rfl, hb⟩; refine ⟨_, rfl, ?_⟩; have n0_ := zad (zbr (taaf) hb); have n1_ := zad (zbr (taae) hb); have n2_ := zad (zbr (taag) hb); have n3_ := zad (zbr (taaj) hb); have n4_ := zad (Kd.S_below (taan) hb); have n5_ := zad (zbr (taao) hb); have n6_ := zad (Kd.C_below (taai) hb); have n7_ := zad (zbe (taaa) hb); clear HO_5 HO_6 HO_7 HO_11 HO_176 HL620_0 HR620_0 HB; have HO_5 := n0_; have HO_6 := n1_; have HO_7 := n2_; have HO_11 := n3_; have HO_176 := n4_; have HL620_0 := n5_; have HR620_0 := n6_; have HB := n7_; clear n0_ n1_ n2_ n3_ n4_ n5_ n6_ n7_; (try clear hb); (try clear hb2); (try clear hk); (try clear hi)) | (go_at_call 22; (with_reducible refine (zck k4 _ _ (rd_L1 t615 x178_4) _ _ t569 false _ ?side1 ?side2 ?side3 ?side4 A104.out).mono ?_); (case side1 => repeat (first | exact (taai) | (with_reducible refine zal ?_ _) | (with_reducible refine zam ?_ _) | (with_reducible refine zan ?_))); (case side2 => exact HC620_0.out); (case side3 => repeat (first | exact (zbd HO_6.out).2.2 | (with_reducible refine zal ?_ _) | (with_reducible refine zam ?_ _) | (with_reducible refine zan ?_))); (case side4 => exact (zbd HO_6.out).2.1); rintro e w147 ⟨rfl, hb⟩; have n0_ := zad (zbr (taaf) hb); have n1_ := zad (zbr (taae) hb); have n2_ := zad (zbr (taag) hb); have n3_ := zad (zbr (taaj) hb); have n4_ := zad (Kd.S_below (taan) hb); have n5_ := zad (zbr (taao) hb); have n6_ := zad (Kd.C_below (taai) hb); have n7_ := zad (zbe (taaa) hb); clear HO_5 HO_6 HO_7 HO_11 HO_176 HL620_0 HR620_0 HB; have HO_5 := n0_; have HO_6 := n1_; have HO_7 := n2_; have HO_11 := n3_; have HO_176 := n4_; have HL620_0 := n5_; have HR620_0 := n6_; have HB := n7_; clear n0_ n1_ n2_ n3_ n4_ n5_ n6_ n7_; (try clear hb); (try clear hb2); (try clear hk); (try clear hi)) | (go_at_call 22; (with_reducible refine (zck k4 _ _ t568 _ _ (rd_L1 t615 x178_4) true _ ?side1 ?side2 ?side3 ?side4 A136.out).mono ?_); (case side1 => repeat (first | exact (zbd HO_5.out).2.2 | (with_reducible refine zal ?_ _) | (with_reducible refine zam ?_ _) | (with_reducible refine zan ?_))); (case side2 => exact (zbd HO_5.out).2.1); (case side3 => repeat (first | exact (taai) | (with_reducible refine zal ?_ _) | (with_reducible refine zam ?_ _) | (with_reducible refine zan ?_))); (case side4 => exact HC620_0.out); rintro e w148 ⟨rfl, hb⟩; have n0_ := zad (zbr (taaf) hb); have n1_ := zad (zbr (taae) hb); have n2_ := zad (zbr (taag) hb); have n3_ := zad (zbr (taaj) hb); have n4_ := zad (Kd.S_below (taan) hb); have n5_ := zad (zbr (taao) hb); have n6_ := zad (Kd.C_below (taai) hb); have n7_ := zad (zbe (taaa) hb); clear HO_5 HO_6 HO_7 HO_11 HO_176 HL620_0 HR620_0 HB; have HO_5 := n0_; have HO_6 := n1_; have HO_7 := n2_; have HO_11 := n3_; have HO_176 := n4_; have HL620_0 := n5_; have HR620_0 := n6_; have HB := n7_; clear n0_ n1_ n2_ n3_ n4_ n5_ n6_ n7_; (try clear hb); (try clear hb2); (try clear hk); (try clear hi)) | (go_at_call 22; (with_reducible refine (zck k4 _ _ t569 _ _ (rd_L1 t615 x178_4) true _ ?side1 ?side2 ?side3 ?side4 A138.out).mono ?_); (case side1 => repeat (first | exact (zbd HO_6.out).2.2 | (with_reducible refine zal ?_ _) | (with_reducible refine zam ?_ _) | (with_reducible refine zan ?_))); (case side2 => exact (zbd HO_6.out).2.1); (case side3 => repeat (first | exact (taai) | (with_reducible refine zal ?_ _) | (with_reducible refine zam ?_ _) | (with_reducible refine zan ?_))); (case side4 => exact HC620_0.out); rintro e w149 ⟨rfl, hb⟩; have n0_ := zad (zbr (taaf) hb); have n1_ := zad (zbr (taae) hb); have n2_ := zad (zbr (taag) hb); have n3_ := zad (zbr (taaj) hb); have n4_ := zad (Kd.S_below (taan) hb); have n5_ := zad (zbr (taao) hb); have n6_ := zad (Kd.C_below (taai) hb); have n7_ := zad (zbe (taaa) hb); clear HO_5 HO_6 HO_7 HO_11 HO_176 HL620_0 HR620_0 HB; have HO_5 := n0_; have HO_6 := n1_; have HO_7 := n2_; have HO_11 := n3_; have HO_176 := n4_; have HL620_0 := n5_; have HR620_0 := n6_; have HB := n7_; clear n0_ n1_ n2_ n3_ n4_ n5_ n6_ n7_; (try clear hb); (try clear hb2); (try clear hk); (try clear hi)) | (go_at_call 20; (with_reducible refine (laws_pSame.calls k4 _ _ (rd_L1 t615 x178_4) _ _ t574 false _ ?side1 ?side2 ?side3 ?side4 A140.out).mono ?_); (case side1 => repeat (first | exact (taai) | (with_reducible refine zal ?_ _) | (with_reducible refine zam ?_ _) | (with_reducible refine zan ?_))); (case side2 => exact HC620_0.out); (case side3 => repeat (first | exact (zbd HO_7.out).2.2 | (with_reducible refine zal ?_ _) | (with_reducible refine zam ?_ _) | (with_reducible refine zan ?_))); (case side4 => exact (zbd HO_7.out).2.1); rintro e w' ⟨rfl, ⟨nd, rfl⟩⟩))
                                       go_ret
                                       exact ⟨taam, taaa⟩
                                   · replace c139 := zbg.mpr c139
                                     subst c139; have H1 : (laws_FnMeetsAndJoins.l0 k4 t568 t569 t574 t582 t615 (t615.length : Int) (wrap64 (x178_4 + 1))) = some r := by rw [if_neg (show ¬ (false = true) by decide)] at H; exact H
                                     clear H; have H := H1; clear H1; have H' := zad H
                                     clear H; have p620 : 0 ≤ (x178_4 : Int) := zas (taab)
                                     have q620 : x178_4 < (t615.length : Int) := zas (taab)
                                     obtain ⟨ad620, A620_0, c620_0, e620, hx620_0, hl620_0, hi620_0⟩ := at_L1 (Kd.S_reads' HO_176.out).2.2 x178_4 p620 q620
                                     cases e620
                                     obtain ⟨ce620, hce620, hMe620, hcc620⟩ := Kd.S_get HO_176.out [] x178_4 p620 (taed)
                                     obtain ⟨ve620_0, rfl, ge620_0⟩ := hMe620
                                     have hv620_0 := hcc620 0 _ rfl
                                     rw [Nat.add_zero, show ((Kd.slice 3 (Kd.int .i64))).sz = 1 from rfl, Nat.mul_one] at hv620_0
                                     replace hv620_0 := zbc (hv620_0.symm.trans hx620_0)
                                     rw [hv620_0] at ge620_0
                                     have HL620_0 := zad (show Kd.R (Kd.int .i64) 3 _ _ _ _ (rd_L1 t615 x178_4) from ge620_0)
                                     clear hv620_0 ge620_0 hcc620 hce620; have HR620_0 := zad hi620_0; have HC620_0 := zad hl620_0; clear hi620_0 hl620_0; replace p620 := eq_true p620
                                     replace q620 := eq_true q620
                                     go_wp2_with (first | ((with_reducible refine zbf (f := 22) rfl ?_); refine zbl (some 184) rfl rfl Try.func22 (by kernel_rfl) rfl #[.slice A620_0 (rd_L1 t615 x178_4).length c620_0, .slice Ao12 t568.length co12] rfl (taac) ?_; (with_reducible refine (zck k4 _ _ (rd_L1 t615 x178_4) _ _ t568 true _ ?side1 ?side2 ?side3 ?side4 A102.out).mono ?_); (case side1 => repeat (first | exact (taai) | (with_reducible refine zal ?_ _) | (with_reducible refine zam ?_ _) | (with_reducible refine zan ?_))); (case side2 => exact HC620_0.out); (case side3 => repeat (first | exact (zbd HO_5.out).2.2 | (with_reducible refine zal ?_ _) | (with_reducible refine zam ?_ _) | (with_reducible refine zan ?_))); (case side4 => exact (zbd HO_5.out).2.1); rintro e w150 ⟨rfl, hb⟩; refine ⟨_, rfl, ?_⟩; have n0_ := zad (zbr (taaf) hb); have n1_ := zad (zbr (taae) hb); have n2_ := zad (zbr (taag) hb); have n3_ := zad (zbr (taaj) hb); have n4_ := zad (Kd.S_below (taan) hb); have n5_ := zad (zbr (taao) hb); have n6_ := zad (Kd.C_below (taai) hb); have n7_ := zad (zbe (taaa) hb); clear HO_5 HO_6 HO_7 HO_11 HO_176 HL620_0 HR620_0 HB; have HO_5 := n0_; have HO_6 := n1_; have HO_7 := n2_; have HO_11 := n3_; have HO_176 := n4_; have HL620_0 := n5_; have HR620_0 := n6_; have HB := n7_; clear n0_ n1_ n2_ n3_ n4_ n5_ n6_ n7_; (try clear hb); (try clear hb2); (try clear hk); (try clear hi)) | (go_at_call 22; (with_reducible refine (zck k4 _ _ (rd_L1 t615 x178_4) _ _ t569 false _ ?side1 ?side2 ?side3 ?side4 A104.out).mono ?_); (case side1 => repeat (first | exact (taai) | (with_reducible refine zal ?_ _) | (with_reducible refine zam ?_ _) | (with_reducible refine zan ?_))); (case side2 => exact HC620_0.out); (case side3 => repeat (first | exact (zbd HO_6.out).2.2 | (with_reducible refine zal ?_ _) | (with_reducible refine zam ?_ _) | (with_reducible refine zan ?_))); (case side4 => exact (zbd HO_6.out).2.1); rintro e w151 ⟨rfl, hb⟩; have n0_ := zad (zbr (taaf) hb); have n1_ := zad (zbr (taae) hb); have n2_ := zad (zbr (taag) hb); have n3_ := zad (zbr (taaj) hb); have n4_ := zad (Kd.S_below (taan) hb); have n5_ := zad (zbr (taao) hb); have n6_ := zad (Kd.C_below (taai) hb); have n7_ := zad (zbe (taaa) hb); clear HO_5 HO_6 HO_7 HO_11 HO_176 HL620_0 HR620_0 HB; have HO_5 := n0_; have HO_6 := n1_; have HO_7 := n2_; have HO_11 := n3_; have HO_176 := n4_; have HL620_0 := n5_; have HR620_0 := n6_; have HB := n7_; clear n0_ n1_ n2_ n3_ n4_ n5_ n6_ n7_; (try clear hb); (try clear hb2); (try clear hk); (try clear hi)) | (go_at_call 22; (with_reducible refine (zck k4 _ _ t568 _ _ (rd_L1 t615 x178_4) true _ ?side1 ?side2 ?side3 ?side4 A136.out).mono ?_); (case side1 => repeat (first | exact (zbd HO_5.out).2.2 | (with_reducible refine zal ?_ _) | (with_reducible refine zam ?_ _) | (with_reducible refine zan ?_))); (case side2 => exact (zbd HO_5.out).2.1); (case side3 => repeat (first | exact (taai) | (with_reducible refine zal ?_ _) | (with_reducible refine zam ?_ _) | (with_reducible refine zan ?_))); (case side4 => exact HC620_0.out); rintro e w152 ⟨rfl, hb⟩; have n0_ := zad (zbr (taaf) hb); have n1_ := zad (zbr (taae) hb); have n2_ := zad (zbr (taag) hb); have n3_ := zad (zbr (taaj) hb); have n4_ := zad (Kd.S_below (taan) hb); have n5_ := zad (zbr (taao) hb); have n6_ := zad (Kd.C_below (taai) hb); have n7_ := zad (zbe (taaa) hb); clear HO_5 HO_6 HO_7 HO_11 HO_176 HL620_0 HR620_0 HB; have HO_5 := n0_; have HO_6 := n1_; have HO_7 := n2_; have HO_11 := n3_; have HO_176 := n4_; have HL620_0 := n5_; have HR620_0 := n6_; have HB := n7_; clear n0_ n1_ n2_ n3_ n4_ n5_ n6_ n7_; (try clear hb); (try clear hb2); (try clear hk); (try clear hi)) | (go_at_call 22; (with_reducible refine (zck k4 _ _ t569 _ _ (rd_L1 t615 x178_4) false _ ?side1 ?side2 ?side3 ?side4 A138.out).mono ?_); (case side1 => repeat (first | exact (zbd HO_6.out).2.2 | (with_reducible refine zal ?_ _) | (with_reducible refine zam ?_ _) | (with_reducible refine zan ?_))); (case side2 => exact (zbd HO_6.out).2.1); (case side3 => repeat (first | exact (taai) | (with_reducible refine zal ?_ _) | (with_reducible refine zam ?_ _) | (with_reducible refine zan ?_))); (case side4 => exact HC620_0.out); rintro e w153 ⟨rfl, hb⟩; have n0_ := zad (zbr (taaf) hb); have n1_ := zad (zbr (taae) hb); have n2_ := zad (zbr (taag) hb); have n3_ := zad (zbr (taaj) hb); have n4_ := zad (Kd.S_below (taan) hb); have n5_ := zad (zbr (taao) hb); have n6_ := zad (Kd.C_below (taai) hb); have n7_ := zad (zbe (taaa) hb); clear HO_5 HO_6 HO_7 HO_11 HO_176 HL620_0 HR620_0 HB; have HO_5 := n0_; have HO_6 := n1_; have HO_7 := n2_; have HO_11 := n3_; have HO_176 := n4_; have HL620_0 := n5_; have HR620_0 := n6_; have HB := n7_; clear n0_ n1_ n2_ n3_ n4_ n5_ n6_ n7_; (try clear hb); (try clear hb2); (try clear hk); (try clear hi)))
                                     go_roundg k4
                                     case measure => have := HJ9.out; have := HJ40.out; have := HJ85.out; have := HK4.out; omega
                                     case rel => exact ⟨(wrap64 (x178_4 + 1)), (taad), H', ⟨tabh⟩, ⟨taaf⟩, ⟨taae⟩, ⟨taag⟩, ⟨taaj⟩, ⟨taan⟩, ⟨taaa⟩⟩
                                 · replace c137 := zbg.mpr c137
                                   subst c137; have H1 : (laws_FnMeetsAndJoins.l0 k4 t568 t569 t574 t582 t615 (t615.length : Int) (wrap64 (x178_4 + 1))) = some r := by rw [if_neg (show ¬ (false = true) by decide)] at H; exact H
                                   clear H; have H := H1; clear H1; have H' := zad H
                                   clear H; have p620 : 0 ≤ (x178_4 : Int) := zas (taab)
                                   have q620 : x178_4 < (t615.length : Int) := zas (taab)
                                   obtain ⟨ad620, A620_0, c620_0, e620, hx620_0, hl620_0, hi620_0⟩ := at_L1 (Kd.S_reads' HO_176.out).2.2 x178_4 p620 q620
                                   cases e620
                                   obtain ⟨ce620, hce620, hMe620, hcc620⟩ := Kd.S_get HO_176.out [] x178_4 p620 (taed)
                                   obtain ⟨ve620_0, rfl, ge620_0⟩ := hMe620
                                   have hv620_0 := hcc620 0 _ rfl
                                   rw [Nat.add_zero, show ((Kd.slice 3 (Kd.int .i64))).sz = 1 from rfl, Nat.mul_one] at hv620_0
                                   replace hv620_0 := zbc (hv620_0.symm.trans hx620_0)
                                   rw [hv620_0] at ge620_0
                                   have HL620_0 := zad (show Kd.R (Kd.int .i64) 3 _ _ _ _ (rd_L1 t615 x178_4) from ge620_0)
                                   clear hv620_0 ge620_0 hcc620 hce620; have HR620_0 := zad hi620_0; have HC620_0 := zad hl620_0; clear hi620_0 hl620_0; replace p620 := eq_true p620
                                   replace q620 := eq_true q620
                                   go_wp2_with (first | ((with_reducible refine zbf (f := 22) rfl ?_); refine zbl (some 184) rfl rfl Try.func22 (by kernel_rfl) rfl #[.slice A620_0 (rd_L1 t615 x178_4).length c620_0, .slice Ao12 t568.length co12] rfl (taac) ?_; (with_reducible refine (zck k4 _ _ (rd_L1 t615 x178_4) _ _ t568 true _ ?side1 ?side2 ?side3 ?side4 A102.out).mono ?_); (case side1 => repeat (first | exact (taai) | (with_reducible refine zal ?_ _) | (with_reducible refine zam ?_ _) | (with_reducible refine zan ?_))); (case side2 => exact HC620_0.out); (case side3 => repeat (first | exact (zbd HO_5.out).2.2 | (with_reducible refine zal ?_ _) | (with_reducible refine zam ?_ _) | (with_reducible refine zan ?_))); (case side4 => exact (zbd HO_5.out).2.1); rintro e w154 ⟨rfl, hb⟩; refine ⟨_, rfl, ?_⟩; have n0_ := zad (zbr (taaf) hb); have n1_ := zad (zbr (taae) hb); have n2_ := zad (zbr (taag) hb); have n3_ := zad (zbr (taaj) hb); have n4_ := zad (Kd.S_below (taan) hb); have n5_ := zad (zbr (taao) hb); have n6_ := zad (Kd.C_below (taai) hb); have n7_ := zad (zbe (taaa) hb); clear HO_5 HO_6 HO_7 HO_11 HO_176 HL620_0 HR620_0 HB; have HO_5 := n0_; have HO_6 := n1_; have HO_7 := n2_; have HO_11 := n3_; have HO_176 := n4_; have HL620_0 := n5_; have HR620_0 := n6_; have HB := n7_; clear n0_ n1_ n2_ n3_ n4_ n5_ n6_ n7_; (try clear hb); (try clear hb2); (try clear hk); (try clear hi)) | (go_at_call 22; (with_reducible refine (zck k4 _ _ (rd_L1 t615 x178_4) _ _ t569 false _ ?side1 ?side2 ?side3 ?side4 A104.out).mono ?_); (case side1 => repeat (first | exact (taai) | (with_reducible refine zal ?_ _) | (with_reducible refine zam ?_ _) | (with_reducible refine zan ?_))); (case side2 => exact HC620_0.out); (case side3 => repeat (first | exact (zbd HO_6.out).2.2 | (with_reducible refine zal ?_ _) | (with_reducible refine zam ?_ _) | (with_reducible refine zan ?_))); (case side4 => exact (zbd HO_6.out).2.1); rintro e w155 ⟨rfl, hb⟩; have n0_ := zad (zbr (taaf) hb); have n1_ := zad (zbr (taae) hb); have n2_ := zad (zbr (taag) hb); have n3_ := zad (zbr (taaj) hb); have n4_ := zad (Kd.S_below (taan) hb); have n5_ := zad (zbr (taao) hb); have n6_ := zad (Kd.C_below (taai) hb); have n7_ := zad (zbe (taaa) hb); clear HO_5 HO_6 HO_7 HO_11 HO_176 HL620_0 HR620_0 HB; have HO_5 := n0_; have HO_6 := n1_; have HO_7 := n2_; have HO_11 := n3_; have HO_176 := n4_; have HL620_0 := n5_; have HR620_0 := n6_; have HB := n7_; clear n0_ n1_ n2_ n3_ n4_ n5_ n6_ n7_; (try clear hb); (try clear hb2); (try clear hk); (try clear hi)) | (go_at_call 22; (with_reducible refine (zck k4 _ _ t568 _ _ (rd_L1 t615 x178_4) false _ ?side1 ?side2 ?side3 ?side4 A136.out).mono ?_); (case side1 => repeat (first | exact (zbd HO_5.out).2.2 | (with_reducible refine zal ?_ _) | (with_reducible refine zam ?_ _) | (with_reducible refine zan ?_))); (case side2 => exact (zbd HO_5.out).2.1); (case side3 => repeat (first | exact (taai) | (with_reducible refine zal ?_ _) | (with_reducible refine zam ?_ _) | (with_reducible refine zan ?_))); (case side4 => exact HC620_0.out); rintro e w156 ⟨rfl, hb⟩; have n0_ := zad (zbr (taaf) hb); have n1_ := zad (zbr (taae) hb); have n2_ := zad (zbr (taag) hb); have n3_ := zad (zbr (taaj) hb); have n4_ := zad (Kd.S_below (taan) hb); have n5_ := zad (zbr (taao) hb); have n6_ := zad (Kd.C_below (taai) hb); have n7_ := zad (zbe (taaa) hb); clear HO_5 HO_6 HO_7 HO_11 HO_176 HL620_0 HR620_0 HB; have HO_5 := n0_; have HO_6 := n1_; have HO_7 := n2_; have HO_11 := n3_; have HO_176 := n4_; have HL620_0 := n5_; have HR620_0 := n6_; have HB := n7_; clear n0_ n1_ n2_ n3_ n4_ n5_ n6_ n7_; (try clear hb); (try clear hb2); (try clear hk); (try clear hi)))
                                   go_roundg k4
                                   case measure => have := HJ9.out; have := HJ40.out; have := HJ85.out; have := HK4.out; omega
                                   case rel => exact ⟨(wrap64 (x178_4 + 1)), (taad), H', ⟨tabh⟩, ⟨taaf⟩, ⟨taae⟩, ⟨taag⟩, ⟨taaj⟩, ⟨taan⟩, ⟨taaa⟩⟩
                             · replace c103 := zbg.mpr c103
                               subst c103; have H1 : ((laws_pBelow.f k4 t568 (rd_L1 t615 x178_4)).bind fun t630 => (if t630 = true then ((laws_pBelow.f k4 t569 (rd_L1 t615 x178_4)).bind fun t631 => (if t631 = true then ((laws_pSame.f k4 (rd_L1 t615 x178_4) t574).bind fun t632 => (if t632 = true then (laws_FnMeetsAndJoins.l0 k4 t568 t569 t574 t582 t615 (t615.length : Int) (wrap64 (x178_4 + 1))) else (some false))) else (laws_FnMeetsAndJoins.l0 k4 t568 t569 t574 t582 t615 (t615.length : Int) (wrap64 (x178_4 + 1))))) else (laws_FnMeetsAndJoins.l0 k4 t568 t569 t574 t582 t615 (t615.length : Int) (wrap64 (x178_4 + 1))))) = some r := by rw [if_neg (show ¬ (false = true) by decide)] at H; exact H
                               clear H; have H := H1; clear H1; replace H := zay.mp H; obtain ⟨t630, A1570, H⟩ := H
                               replace H : (if t630 = true then ((laws_pBelow.f k4 t569 (rd_L1 t615 x178_4)).bind fun t631 => (if t631 = true then ((laws_pSame.f k4 (rd_L1 t615 x178_4) t574).bind fun t632 => (if t632 = true then (laws_FnMeetsAndJoins.l0 k4 t568 t569 t574 t582 t615 (t615.length : Int) (wrap64 (x178_4 + 1))) else (some false))) else (laws_FnMeetsAndJoins.l0 k4 t568 t569 t574 t582 t615 (t615.length : Int) (wrap64 (x178_4 + 1))))) else (laws_FnMeetsAndJoins.l0 k4 t568 t569 t574 t582 t615 (t615.length : Int) (wrap64 (x178_4 + 1)))) = some r := H
                               have A157 := zad A1570; clear A1570; by_cases c158 : t630 = true
                               · subst c158
                                 have H1 : ((laws_pBelow.f k4 t569 (rd_L1 t615 x178_4)).bind fun t631 => (if t631 = true then ((laws_pSame.f k4 (rd_L1 t615 x178_4) t574).bind fun t632 => (if t632 = true then (laws_FnMeetsAndJoins.l0 k4 t568 t569 t574 t582 t615 (t615.length : Int) (wrap64 (x178_4 + 1))) else (some false))) else (laws_FnMeetsAndJoins.l0 k4 t568 t569 t574 t582 t615 (t615.length : Int) (wrap64 (x178_4 + 1))))) = some r := by rw [if_pos rfl] at H; exact H
                                 clear H; have H := H1; clear H1; replace H := zay.mp H; obtain ⟨t631, A1590, H⟩ := H
                                 replace H : (if t631 = true then ((laws_pSame.f k4 (rd_L1 t615 x178_4) t574).bind fun t632 => (if t632 = true then (laws_FnMeetsAndJoins.l0 k4 t568 t569 t574 t582 t615 (t615.length : Int) (wrap64 (x178_4 + 1))) else (some false))) else (laws_FnMeetsAndJoins.l0 k4 t568 t569 t574 t582 t615 (t615.length : Int) (wrap64 (x178_4 + 1)))) = some r := H
                                 have A159 := zad A1590; clear A1590; by_cases c160 : t631 = true
                                 · subst c160
                                   have H1 : ((laws_pSame.f k4 (rd_L1 t615 x178_4) t574).bind fun t632 => (if t632 = true then (laws_FnMeetsAndJoins.l0 k4 t568 t569 t574 t582 t615 (t615.length : Int) (wrap64 (x178_4 + 1))) else (some false))) = some r := by rw [if_pos rfl] at H; exact H
                                   clear H; have H := H1; clear H1; replace H := zay.mp H; obtain ⟨t632, A1610, H⟩ := H
                                   replace H : (if t632 = true then (laws_FnMeetsAndJoins.l0 k4 t568 t569 t574 t582 t615 (t615.length : Int) (wrap64 (x178_4 + 1))) else (some false)) = some r := H
                                   have A161 := zad A1610; clear A1610; by_cases c162 : t632 = true
                                   · subst c162
                                     have H1 : (laws_FnMeetsAndJoins.l0 k4 t568 t569 t574 t582 t615 (t615.length : Int) (wrap64 (x178_4 + 1))) = some r := by rw [if_pos rfl] at H; exact H
                                     clear H; have H := H1; clear H1; have H' := zad H
                                     clear H; have p620 : 0 ≤ (x178_4 : Int) := zas (taab)
                                     have q620 : x178_4 < (t615.length : Int) := zas (taab)
                                     obtain ⟨ad620, A620_0, c620_0, e620, hx620_0, hl620_0, hi620_0⟩ := at_L1 (Kd.S_reads' HO_176.out).2.2 x178_4 p620 q620
                                     cases e620
                                     obtain ⟨ce620, hce620, hMe620, hcc620⟩ := Kd.S_get HO_176.out [] x178_4 p620 (taed)
                                     obtain ⟨ve620_0, rfl, ge620_0⟩ := hMe620
                                     have hv620_0 := hcc620 0 _ rfl
                                     rw [Nat.add_zero, show ((Kd.slice 3 (Kd.int .i64))).sz = 1 from rfl, Nat.mul_one] at hv620_0
                                     replace hv620_0 := zbc (hv620_0.symm.trans hx620_0)
                                     rw [hv620_0] at ge620_0
                                     have HL620_0 := zad (show Kd.R (Kd.int .i64) 3 _ _ _ _ (rd_L1 t615 x178_4) from ge620_0)
                                     clear hv620_0 ge620_0 hcc620 hce620; have HR620_0 := zad hi620_0; have HC620_0 := zad hl620_0; clear hi620_0 hl620_0; replace p620 := eq_true p620
                                     replace q620 := eq_true q620
                                     go_wp2_with (first | ((with_reducible refine zbf (f := 22) rfl ?_); refine zbl (some 184) rfl rfl Try.func22 (by kernel_rfl) rfl #[.slice A620_0 (rd_L1 t615 x178_4).length c620_0, .slice Ao12 t568.length co12] rfl (taac) ?_; (with_reducible refine (zck k4 _ _ (rd_L1 t615 x178_4) _ _ t568 false _ ?side1 ?side2 ?side3 ?side4 A102.out).mono ?_); (case side1 => repeat (first | exact (taai) | (with_reducible refine zal ?_ _) | (with_reducible refine zam ?_ _) | (with_reducible refine zan ?_))); (case side2 => exact HC620_0.out); (case side3 => repeat (first | exact (zbd HO_5.out).2.2 | (with_reducible refine zal ?_ _) | (with_reducible refine zam ?_ _) | (with_reducible refine zan ?_))); (case side4 => exact (zbd HO_5.out).2.1); rintro e w163 ⟨rfl, hb⟩; refine ⟨_, rfl, ?_⟩; have n0_ := zad (zbr (taaf) hb); have n1_ := zad (zbr (taae) hb); have n2_ := zad (zbr (taag) hb); have n3_ := zad (zbr (taaj) hb); have n4_ := zad (Kd.S_below (taan) hb); have n5_ := zad (zbr (taao) hb); have n6_ := zad (Kd.C_below (taai) hb); have n7_ := zad (zbe (taaa) hb); clear HO_5 HO_6 HO_7 HO_11 HO_176 HL620_0 HR620_0 HB; have HO_5 := n0_; have HO_6 := n1_; have HO_7 := n2_; have HO_11 := n3_; have HO_176 := n4_; have HL620_0 := n5_; have HR620_0 := n6_; have HB := n7_; clear n0_ n1_ n2_ n3_ n4_ n5_ n6_ n7_; (try clear hb); (try clear hb2); (try clear hk); (try clear hi)) | (go_at_call 22; (with_reducible refine (zck k4 _ _ t568 _ _ (rd_L1 t615 x178_4) true _ ?side1 ?side2 ?side3 ?side4 A157.out).mono ?_); (case side1 => repeat (first | exact (zbd HO_5.out).2.2 | (with_reducible refine zal ?_ _) | (with_reducible refine zam ?_ _) | (with_reducible refine zan ?_))); (case side2 => exact (zbd HO_5.out).2.1); (case side3 => repeat (first | exact (taai) | (with_reducible refine zal ?_ _) | (with_reducible refine zam ?_ _) | (with_reducible refine zan ?_))); (case side4 => exact HC620_0.out); rintro e w164 ⟨rfl, hb⟩; have n0_ := zad (zbr (taaf) hb); have n1_ := zad (zbr (taae) hb); have n2_ := zad (zbr (taag) hb); have n3_ := zad (zbr (taaj) hb); have n4_ := zad (Kd.S_below (taan) hb); have n5_ := zad (zbr (taao) hb); have n6_ := zad (Kd.C_below (taai) hb); have n7_ := zad (zbe (taaa) hb); clear HO_5 HO_6 HO_7 HO_11 HO_176 HL620_0 HR620_0 HB; have HO_5 := n0_; have HO_6 := n1_; have HO_7 := n2_; have HO_11 := n3_; have HO_176 := n4_; have HL620_0 := n5_; have HR620_0 := n6_; have HB := n7_; clear n0_ n1_ n2_ n3_ n4_ n5_ n6_ n7_; (try clear hb); (try clear hb2); (try clear hk); (try clear hi)) | (go_at_call 22; (with_reducible refine (zck k4 _ _ t569 _ _ (rd_L1 t615 x178_4) true _ ?side1 ?side2 ?side3 ?side4 A159.out).mono ?_); (case side1 => repeat (first | exact (zbd HO_6.out).2.2 | (with_reducible refine zal ?_ _) | (with_reducible refine zam ?_ _) | (with_reducible refine zan ?_))); (case side2 => exact (zbd HO_6.out).2.1); (case side3 => repeat (first | exact (taai) | (with_reducible refine zal ?_ _) | (with_reducible refine zam ?_ _) | (with_reducible refine zan ?_))); (case side4 => exact HC620_0.out); rintro e w165 ⟨rfl, hb⟩; have n0_ := zad (zbr (taaf) hb); have n1_ := zad (zbr (taae) hb); have n2_ := zad (zbr (taag) hb); have n3_ := zad (zbr (taaj) hb); have n4_ := zad (Kd.S_below (taan) hb); have n5_ := zad (zbr (taao) hb); have n6_ := zad (Kd.C_below (taai) hb); have n7_ := zad (zbe (taaa) hb); clear HO_5 HO_6 HO_7 HO_11 HO_176 HL620_0 HR620_0 HB; have HO_5 := n0_; have HO_6 := n1_; have HO_7 := n2_; have HO_11 := n3_; have HO_176 := n4_; have HL620_0 := n5_; have HR620_0 := n6_; have HB := n7_; clear n0_ n1_ n2_ n3_ n4_ n5_ n6_ n7_; (try clear hb); (try clear hb2); (try clear hk); (try clear hi)) | (go_at_call 20; (with_reducible refine (laws_pSame.calls k4 _ _ (rd_L1 t615 x178_4) _ _ t574 true _ ?side1 ?side2 ?side3 ?side4 A161.out).mono ?_); (case side1 => repeat (first | exact (taai) | (with_reducible refine zal ?_ _) | (with_reducible refine zam ?_ _) | (with_reducible refine zan ?_))); (case side2 => exact HC620_0.out); (case side3 => repeat (first | exact (zbd HO_7.out).2.2 | (with_reducible refine zal ?_ _) | (with_reducible refine zam ?_ _) | (with_reducible refine zan ?_))); (case side4 => exact (zbd HO_7.out).2.1); rintro e w' ⟨rfl, ⟨nd, rfl⟩⟩))
                                     go_roundg k4
                                     case measure => have := HJ9.out; have := HJ40.out; have := HJ85.out; have := HK4.out; omega
                                     case rel => exact ⟨(wrap64 (x178_4 + 1)), (taad), H', ⟨tabh⟩, ⟨taaf⟩, ⟨taae⟩, ⟨taag⟩, ⟨taaj⟩, ⟨taan⟩, ⟨taaa⟩⟩
                                   · replace c162 := zbg.mpr c162
                                     subst c162; have H1 : (some false) = some r := by rw [if_neg (show ¬ (false = true) by decide)] at H; exact H
                                     clear H; have H := H1; clear H1; obtain rfl := zbc H
                                     have p620 : 0 ≤ (x178_4 : Int) := zas (taab)
                                     have q620 : x178_4 < (t615.length : Int) := zas (taab)
                                     obtain ⟨ad620, A620_0, c620_0, e620, hx620_0, hl620_0, hi620_0⟩ := at_L1 (Kd.S_reads' HO_176.out).2.2 x178_4 p620 q620
                                     cases e620
                                     obtain ⟨ce620, hce620, hMe620, hcc620⟩ := Kd.S_get HO_176.out [] x178_4 p620 (taed)
                                     obtain ⟨ve620_0, rfl, ge620_0⟩ := hMe620
                                     have hv620_0 := hcc620 0 _ rfl
                                     rw [Nat.add_zero, show ((Kd.slice 3 (Kd.int .i64))).sz = 1 from rfl, Nat.mul_one] at hv620_0
                                     replace hv620_0 := zbc (hv620_0.symm.trans hx620_0)
                                     rw [hv620_0] at ge620_0
                                     have HL620_0 := zad (show Kd.R (Kd.int .i64) 3 _ _ _ _ (rd_L1 t615 x178_4) from ge620_0)
                                     clear hv620_0 ge620_0 hcc620 hce620; have HR620_0 := zad hi620_0; have HC620_0 := zad hl620_0; clear hi620_0 hl620_0; replace p620 := eq_true p620
                                     replace q620 := eq_true q620
                                     go_wp2_with (first | ((with_reducible refine zbf (f := 22) rfl ?_); refine zbl (some 184) rfl rfl Try.func22 (by kernel_rfl) rfl #[.slice A620_0 (rd_L1 t615 x178_4).length c620_0, .slice Ao12 t568.length co12] rfl (taac) ?_; (with_reducible refine (zck k4 _ _ (rd_L1 t615 x178_4) _ _ t568 false _ ?side1 ?side2 ?side3 ?side4 A102.out).mono ?_); (case side1 => repeat (first | exact (taai) | (with_reducible refine zal ?_ _) | (with_reducible refine zam ?_ _) | (with_reducible refine zan ?_))); (case side2 => exact HC620_0.out); (case side3 => repeat (first | exact (zbd HO_5.out).2.2 | (with_reducible refine zal ?_ _) | (with_reducible refine zam ?_ _) | (with_reducible refine zan ?_))); (case side4 => exact (zbd HO_5.out).2.1); rintro e w166 ⟨rfl, hb⟩; refine ⟨_, rfl, ?_⟩; have n0_ := zad (zbr (taaf) hb); have n1_ := zad (zbr (taae) hb); have n2_ := zad (zbr (taag) hb); have n3_ := zad (zbr (taaj) hb); have n4_ := zad (Kd.S_below (taan) hb); have n5_ := zad (zbr (taao) hb); have n6_ := zad (Kd.C_below (taai) hb); have n7_ := zad (zbe (taaa) hb); clear HO_5 HO_6 HO_7 HO_11 HO_176 HL620_0 HR620_0 HB; have HO_5 := n0_; have HO_6 := n1_; have HO_7 := n2_; have HO_11 := n3_; have HO_176 := n4_; have HL620_0 := n5_; have HR620_0 := n6_; have HB := n7_; clear n0_ n1_ n2_ n3_ n4_ n5_ n6_ n7_; (try clear hb); (try clear hb2); (try clear hk); (try clear hi)) | (go_at_call 22; (with_reducible refine (zck k4 _ _ t568 _ _ (rd_L1 t615 x178_4) true _ ?side1 ?side2 ?side3 ?side4 A157.out).mono ?_); (case side1 => repeat (first | exact (zbd HO_5.out).2.2 | (with_reducible refine zal ?_ _) | (with_reducible refine zam ?_ _) | (with_reducible refine zan ?_))); (case side2 => exact (zbd HO_5.out).2.1); (case side3 => repeat (first | exact (taai) | (with_reducible refine zal ?_ _) | (with_reducible refine zam ?_ _) | (with_reducible refine zan ?_))); (case side4 => exact HC620_0.out); rintro e w167 ⟨rfl, hb⟩; have n0_ := zad (zbr (taaf) hb); have n1_ := zad (zbr (taae) hb); have n2_ := zad (zbr (taag) hb); have n3_ := zad (zbr (taaj) hb); have n4_ := zad (Kd.S_below (taan) hb); have n5_ := zad (zbr (taao) hb); have n6_ := zad (Kd.C_below (taai) hb); have n7_ := zad (zbe (taaa) hb); clear HO_5 HO_6 HO_7 HO_11 HO_176 HL620_0 HR620_0 HB; have HO_5 := n0_; have HO_6 := n1_; have HO_7 := n2_; have HO_11 := n3_; have HO_176 := n4_; have HL620_0 := n5_; have HR620_0 := n6_; have HB := n7_; clear n0_ n1_ n2_ n3_ n4_ n5_ n6_ n7_; (try clear hb); (try clear hb2); (try clear hk); (try clear hi)) | (go_at_call 22; (with_reducible refine (zck k4 _ _ t569 _ _ (rd_L1 t615 x178_4) true _ ?side1 ?side2 ?side3 ?side4 A159.out).mono ?_); (case side1 => repeat (first | exact (zbd HO_6.out).2.2 | (with_reducible refine zal ?_ _) | (with_reducible refine zam ?_ _) | (with_reducible refine zan ?_))); (case side2 => exact (zbd HO_6.out).2.1); (case side3 => repeat (first | exact (taai) | (with_reducible refine zal ?_ _) | (with_reducible refine zam ?_ _) | (with_reducible refine zan ?_))); (case side4 => exact HC620_0.out); rintro e w168 ⟨rfl, hb⟩; have n0_ := zad (zbr (taaf) hb); have n1_ := zad (zbr (taae) hb); have n2_ := zad (zbr (taag) hb); have n3_ := zad (zbr (taaj) hb); have n4_ := zad (Kd.S_below (taan) hb); have n5_ := zad (zbr (taao) hb); have n6_ := zad (Kd.C_below (taai) hb); have n7_ := zad (zbe (taaa) hb); clear HO_5 HO_6 HO_7 HO_11 HO_176 HL620_0 HR620_0 HB; have HO_5 := n0_; have HO_6 := n1_; have HO_7 := n2_; have HO_11 := n3_; have HO_176 := n4_; have HL620_0 := n5_; have HR620_0 := n6_; have HB := n7_; clear n0_ n1_ n2_ n3_ n4_ n5_ n6_ n7_; (try clear hb); (try clear hb2); (try clear hk); (try clear hi)) | (go_at_call 20; (with_reducible refine (laws_pSame.calls k4 _ _ (rd_L1 t615 x178_4) _ _ t574 false _ ?side1 ?side2 ?side3 ?side4 A161.out).mono ?_); (case side1 => repeat (first | exact (taai) | (with_reducible refine zal ?_ _) | (with_reducible refine zam ?_ _) | (with_reducible refine zan ?_))); (case side2 => exact HC620_0.out); (case side3 => repeat (first | exact (zbd HO_7.out).2.2 | (with_reducible refine zal ?_ _) | (with_reducible refine zam ?_ _) | (with_reducible refine zan ?_))); (case side4 => exact (zbd HO_7.out).2.1); rintro e w' ⟨rfl, ⟨nd, rfl⟩⟩))
                                     go_ret
                                     exact ⟨taam, taaa⟩
                                 · replace c160 := zbg.mpr c160
                                   subst c160; have H1 : (laws_FnMeetsAndJoins.l0 k4 t568 t569 t574 t582 t615 (t615.length : Int) (wrap64 (x178_4 + 1))) = some r := by rw [if_neg (show ¬ (false = true) by decide)] at H; exact H
                                   clear H; have H := H1; clear H1; have H' := zad H
                                   clear H; have p620 : 0 ≤ (x178_4 : Int) := zas (taab)
                                   have q620 : x178_4 < (t615.length : Int) := zas (taab)
                                   obtain ⟨ad620, A620_0, c620_0, e620, hx620_0, hl620_0, hi620_0⟩ := at_L1 (Kd.S_reads' HO_176.out).2.2 x178_4 p620 q620
                                   cases e620
                                   obtain ⟨ce620, hce620, hMe620, hcc620⟩ := Kd.S_get HO_176.out [] x178_4 p620 (taed)
                                   obtain ⟨ve620_0, rfl, ge620_0⟩ := hMe620
                                   have hv620_0 := hcc620 0 _ rfl
                                   rw [Nat.add_zero, show ((Kd.slice 3 (Kd.int .i64))).sz = 1 from rfl, Nat.mul_one] at hv620_0
                                   replace hv620_0 := zbc (hv620_0.symm.trans hx620_0)
                                   rw [hv620_0] at ge620_0
                                   have HL620_0 := zad (show Kd.R (Kd.int .i64) 3 _ _ _ _ (rd_L1 t615 x178_4) from ge620_0)
                                   clear hv620_0 ge620_0 hcc620 hce620; have HR620_0 := zad hi620_0; have HC620_0 := zad hl620_0; clear hi620_0 hl620_0; replace p620 := eq_true p620
                                   replace q620 := eq_true q620
                                   go_wp2_with (first | ((with_reducible refine zbf (f := 22) rfl ?_); refine zbl (some 184) rfl rfl Try.func22 (by kernel_rfl) rfl #[.slice A620_0 (rd_L1 t615 x178_4).length c620_0, .slice Ao12 t568.length co12] rfl (taac) ?_; (with_reducible refine (zck k4 _ _ (rd_L1 t615 x178_4) _ _ t568 false _ ?side1 ?side2 ?side3 ?side4 A102.out).mono ?_); (case side1 => repeat (first | exact (taai) | (with_reducible refine zal ?_ _) | (with_reducible refine zam ?_ _) | (with_reducible refine zan ?_))); (case side2 => exact HC620_0.out); (case side3 => repeat (first | exact (zbd HO_5.out).2.2 | (with_reducible refine zal ?_ _) | (with_reducible refine zam ?_ _) | (with_reducible refine zan ?_))); (case side4 => exact (zbd HO_5.out).2.1); rintro e w169 ⟨rfl, hb⟩; refine ⟨_, rfl, ?_⟩; have n0_ := zad (zbr (taaf) hb); have n1_ := zad (zbr (taae) hb); have n2_ := zad (zbr (taag) hb); have n3_ := zad (zbr (taaj) hb); have n4_ := zad (Kd.S_below (taan) hb); have n5_ := zad (zbr (taao) hb); have n6_ := zad (Kd.C_below (taai) hb); have n7_ := zad (zbe (taaa) hb); clear HO_5 HO_6 HO_7 HO_11 HO_176 HL620_0 HR620_0 HB; have HO_5 := n0_; have HO_6 := n1_; have HO_7 := n2_; have HO_11 := n3_; have HO_176 := n4_; have HL620_0 := n5_; have HR620_0 := n6_; have HB := n7_; clear n0_ n1_ n2_ n3_ n4_ n5_ n6_ n7_; (try clear hb); (try clear hb2); (try clear hk); (try clear hi)) | (go_at_call 22; (with_reducible refine (zck k4 _ _ t568 _ _ (rd_L1 t615 x178_4) true _ ?side1 ?side2 ?side3 ?side4 A157.out).mono ?_); (case side1 => repeat (first | exact (zbd HO_5.out).2.2 | (with_reducible refine zal ?_ _) | (with_reducible refine zam ?_ _) | (with_reducible refine zan ?_))); (case side2 => exact (zbd HO_5.out).2.1); (case side3 => repeat (first | exact (taai) | (with_reducible refine zal ?_ _) | (with_reducible refine zam ?_ _) | (with_reducible refine zan ?_))); (case side4 => exact HC620_0.out); rintro e w170 ⟨rfl, hb⟩; have n0_ := zad (zbr (taaf) hb); have n1_ := zad (zbr (taae) hb); have n2_ := zad (zbr (taag) hb); have n3_ := zad (zbr (taaj) hb); have n4_ := zad (Kd.S_below (taan) hb); have n5_ := zad (zbr (taao) hb); have n6_ := zad (Kd.C_below (taai) hb); have n7_ := zad (zbe (taaa) hb); clear HO_5 HO_6 HO_7 HO_11 HO_176 HL620_0 HR620_0 HB; have HO_5 := n0_; have HO_6 := n1_; have HO_7 := n2_; have HO_11 := n3_; have HO_176 := n4_; have HL620_0 := n5_; have HR620_0 := n6_; have HB := n7_; clear n0_ n1_ n2_ n3_ n4_ n5_ n6_ n7_; (try clear hb); (try clear hb2); (try clear hk); (try clear hi)) | (go_at_call 22; (with_reducible refine (zck k4 _ _ t569 _ _ (rd_L1 t615 x178_4) false _ ?side1 ?side2 ?side3 ?side4 A159.out).mono ?_); (case side1 => repeat (first | exact (zbd HO_6.out).2.2 | (with_reducible refine zal ?_ _) | (with_reducible refine zam ?_ _) | (with_reducible refine zan ?_))); (case side2 => exact (zbd HO_6.out).2.1); (case side3 => repeat (first | exact (taai) | (with_reducible refine zal ?_ _) | (with_reducible refine zam ?_ _) | (with_reducible refine zan ?_))); (case side4 => exact HC620_0.out); rintro e w171 ⟨rfl, hb⟩; have n0_ := zad (zbr (taaf) hb); have n1_ := zad (zbr (taae) hb); have n2_ := zad (zbr (taag) hb); have n3_ := zad (zbr (taaj) hb); have n4_ := zad (Kd.S_below (taan) hb); have n5_ := zad (zbr (taao) hb); have n6_ := zad (Kd.C_below (taai) hb); have n7_ := zad (zbe (taaa) hb); clear HO_5 HO_6 HO_7 HO_11 HO_176 HL620_0 HR620_0 HB; have HO_5 := n0_; have HO_6 := n1_; have HO_7 := n2_; have HO_11 := n3_; have HO_176 := n4_; have HL620_0 := n5_; have HR620_0 := n6_; have HB := n7_; clear n0_ n1_ n2_ n3_ n4_ n5_ n6_ n7_; (try clear hb); (try clear hb2); (try clear hk); (try clear hi)))
                                   go_roundg k4
                                   case measure => have := HJ9.out; have := HJ40.out; have := HJ85.out; have := HK4.out; omega
                                   case rel => exact ⟨(wrap64 (x178_4 + 1)), (taad), H', ⟨tabh⟩, ⟨taaf⟩, ⟨taae⟩, ⟨taag⟩, ⟨taaj⟩, ⟨taan⟩, ⟨taaa⟩⟩
                               · replace c158 := zbg.mpr c158
                                 subst c158; have H1 : (laws_FnMeetsAndJoins.l0 k4 t568 t569 t574 t582 t615 (t615.length : Int) (wrap64 (x178_4 + 1))) = some r := by rw [if_neg (show ¬ (false = true) by decide)] at H; exact H
                                 clear H; have H := H1; clear H1; have H' := zad H
                                 clear H; have p620 : 0 ≤ (x178_4 : Int) := zas (taab)
                                 have q620 : x178_4 < (t615.length : Int) := zas (taab)
                                 obtain ⟨ad620, A620_0, c620_0, e620, hx620_0, hl620_0, hi620_0⟩ := at_L1 (Kd.S_reads' HO_176.out).2.2 x178_4 p620 q620
                                 cases e620
                                 obtain ⟨ce620, hce620, hMe620, hcc620⟩ := Kd.S_get HO_176.out [] x178_4 p620 (taed)
                                 obtain ⟨ve620_0, rfl, ge620_0⟩ := hMe620
                                 have hv620_0 := hcc620 0 _ rfl
                                 rw [Nat.add_zero, show ((Kd.slice 3 (Kd.int .i64))).sz = 1 from rfl, Nat.mul_one] at hv620_0
                                 replace hv620_0 := zbc (hv620_0.symm.trans hx620_0)
                                 rw [hv620_0] at ge620_0
                                 have HL620_0 := zad (show Kd.R (Kd.int .i64) 3 _ _ _ _ (rd_L1 t615 x178_4) from ge620_0)
                                 clear hv620_0 ge620_0 hcc620 hce620; have HR620_0 := zad hi620_0; have HC620_0 := zad hl620_0; clear hi620_0 hl620_0; replace p620 := eq_true p620
                                 replace q620 := eq_true q620
                                 go_wp2_with (first | ((with_reducible refine zbf (f := 22) rfl ?_); refine zbl (some 184) rfl rfl Try.func22 (by kernel_rfl) rfl #[.slice A620_0 (rd_L1 t615 x178_4).length c620_0, .slice Ao12 t568.length co12] rfl (taac) ?_; (with_reducible refine (zck k4 _ _ (rd_L1 t615 x178_4) _ _ t568 false _ ?side1 ?side2 ?side3 ?side4 A102.out).mono ?_); (case side1 => repeat (first | exact (taai) | (with_reducible refine zal ?_ _) | (with_reducible refine zam ?_ _) | (with_reducible refine zan ?_))); (case side2 => exact HC620_0.out); (case side3 => repeat (first | exact (zbd HO_5.out).2.2 | (with_reducible refine zal ?_ _) | (with_reducible refine zam ?_ _) | (with_reducible refine zan ?_))); (case side4 => exact (zbd HO_5.out).2.1); rintro e w172 ⟨rfl, hb⟩; refine ⟨_, rfl, ?_⟩; have n0_ := zad (zbr (taaf) hb); have n1_ := zad (zbr (taae) hb); have n2_ := zad (zbr (taag) hb); have n3_ := zad (zbr (taaj) hb); have n4_ := zad (Kd.S_below (taan) hb); have n5_ := zad (zbr (taao) hb); have n6_ := zad (Kd.C_below (taai) hb); have n7_ := zad (zbe (taaa) hb); clear HO_5 HO_6 HO_7 HO_11 HO_176 HL620_0 HR620_0 HB; have HO_5 := n0_; have HO_6 := n1_; have HO_7 := n2_; have HO_11 := n3_; have HO_176 := n4_; have HL620_0 := n5_; have HR620_0 := n6_; have HB := n7_; clear n0_ n1_ n2_ n3_ n4_ n5_ n6_ n7_; (try clear hb); (try clear hb2); (try clear hk); (try clear hi)) | (go_at_call 22; (with_reducible refine (zck k4 _ _ t568 _ _ (rd_L1 t615 x178_4) false _ ?side1 ?side2 ?side3 ?side4 A157.out).mono ?_); (case side1 => repeat (first | exact (zbd HO_5.out).2.2 | (with_reducible refine zal ?_ _) | (with_reducible refine zam ?_ _) | (with_reducible refine zan ?_))); (case side2 => exact (zbd HO_5.out).2.1); (case side3 => repeat (first | exact (taai) | (with_reducible refine zal ?_ _) | (with_reducible refine zam ?_ _) | (with_reducible refine zan ?_))); (case side4 => exact HC620_0.out); rintro e w173 ⟨rfl, hb⟩; have n0_ := zad (zbr (taaf) hb); have n1_ := zad (zbr (taae) hb); have n2_ := zad (zbr (taag) hb); have n3_ := zad (zbr (taaj) hb); have n4_ := zad (Kd.S_below (taan) hb); have n5_ := zad (zbr (taao) hb); have n6_ := zad (Kd.C_below (taai) hb); have n7_ := zad (zbe (taaa) hb); clear HO_5 HO_6 HO_7 HO_11 HO_176 HL620_0 HR620_0 HB; have HO_5 := n0_; have HO_6 := n1_; have HO_7 := n2_; have HO_11 := n3_; have HO_176 := n4_; have HL620_0 := n5_; have HR620_0 := n6_; have HB := n7_; clear n0_ n1_ n2_ n3_ n4_ n5_ n6_ n7_; (try clear hb); (try clear hb2); (try clear hk); (try clear hi)))
                                 go_roundg k4
                                 case measure => have := HJ9.out; have := HJ40.out; have := HJ85.out; have := HK4.out; omega
                                 case rel => exact ⟨(wrap64 (x178_4 + 1)), (taad), H', ⟨tabh⟩, ⟨taaf⟩, ⟨taae⟩, ⟨taag⟩, ⟨taaj⟩, ⟨taan⟩, ⟨taaa⟩⟩
                           · rw [if_neg c101] at H
                             exact absurd H (taah)
                         · rw [if_neg c100] at H
                           exact absurd H (taah)
                       · rw [if_neg c99] at H
                         have c99b0 : decide (x178_4 < (t615.length : Int)) = false := zbh c99
                         clear c99; obtain rfl := zbc H
                         go_wp2
                         go_ret
                         exact ⟨taam, taaa⟩
                 · replace c93 := zbg.mpr c93
                   subst c93; have H1 : ((laws_pSum.f kj85 t568).bind fun t619 => (some (decide (t619 > 30)))) = some r := by rw [if_neg (show ¬ (false = true) by decide)] at H; exact H
                   clear H; have H := H1; clear H1; replace H := zay.mp H; obtain ⟨t619, A1740, H⟩ := H
                   replace H : (some (decide (t619 > 30))) = some r := H
                   have A174 := zad A1740; clear A1740; obtain rfl := zbc H
                   go_wp2_with (first | ((with_reducible refine zbf (f := 23) rfl ?_); refine zbl (some 165) rfl rfl Try.func23 (by kernel_rfl) rfl #[.slice Ao43 t574.length co43] rfl (taac) ?_; (with_reducible refine (impl_BelowOf.calls kj85 _ _ t574 t615 false _ ?side1 ?side2 A92.out).mono ?_); (case side1 => repeat (first | exact (zbd HO_7.out).2.2 | (with_reducible refine zal ?_ _) | (with_reducible refine zam ?_ _) | (with_reducible refine zan ?_))); (case side2 => exact (zbd HO_7.out).2.1); rintro e w175 ⟨v617, rfl, ho0, hb⟩; refine ⟨_, rfl, ?_⟩; have n0_ := zad (zbr (taaf) hb); have n1_ := zad (zbr (taae) hb); have n2_ := zad (zbr (taag) hb); have n3_ := zad (zbr (taaj) hb); have n4_ := zad (Kd.S_lower (Kd.S_new' (Kd.S_new' (Kd.S_new' (Kd.S_new' ho0 (zcb (taaf))) (zcb (taae))) (zcb (taag))) (zcb (taaj))) (zbi (taaa))); have n5_ := zad (zbe (taaa) hb); clear HO_5 HO_6 HO_7 HO_11 HB; have HO_5 := n0_; have HO_6 := n1_; have HO_7 := n2_; have HO_11 := n3_; have HO618 := n4_; have HB := n5_; clear n0_ n1_ n2_ n3_ n4_ n5_; (try clear hb); (try clear hb2); (try clear hk); (try clear hi); (try clear ho0)) | ((with_reducible refine zbf (f := 24) rfl ?_); refine zbl (some 171) rfl rfl Try.func24 (by kernel_rfl) rfl #[.slice Ao12 t568.length co12] rfl (taac) ?_; (with_reducible refine (laws_pSum.calls kj85 _ _ t568 t619 _ ?side1 ?side2 A174.out).mono ?_); (case side1 => repeat (first | exact (zbd HO_5.out).2.2 | (with_reducible refine zal ?_ _) | (with_reducible refine zam ?_ _) | (with_reducible refine zan ?_))); (case side2 => exact (zbd HO_5.out).2.1); rintro e w' ⟨rfl, ⟨nd, rfl⟩⟩; refine ⟨_, rfl, ?_⟩))
                   go_ret
                   exact ⟨taam, taaa⟩
       · replace c37 := zbg.mpr c37
         subst c37; have H1 : (some true) = some r := by rw [if_neg (show ¬ (false = true) by decide)] at H; exact H
         clear H; have H := H1; clear H1; obtain rfl := zbc H
         go_wp2
         go_ret
         exact ⟨taam, taaa⟩
def laws_FnMeetsAndJoins.Pure : Prop := ∀ (l0 : List Int) (l1 : List Int), l0.length ≤ maxLen → l0.length * 1 ≤ 140737488351232 → (∀ x ∈ l0, (Lit.int .u8 x).wf = true) → l1.length ≤ maxLen → l1.length * 1 ≤ 140737488351232 → (∀ x ∈ l1, (Lit.int .u8 x).wf = true) → ∃ k, laws_FnMeetsAndJoins.f k l0 l1 = some true
theorem laws_FnMeetsAndJoins.walk (P : laws_FnMeetsAndJoins.Pure) (a0 : Option Addr) (len0 cap0 : Nat) (z0 : List Int) (a1 : Option Addr) (len1 cap1 : Nat) (z1 : List Int) (w : World) (w0 : (a0 = none ∧ len0 = 0 ∧ cap0 = 0 ∧ z0 = []) ∨ ∃ x, a0 = some x ∧ len0 ≤ cap0 ∧ cap0 ≤ maxLen ∧ z0.length = cap0 ∧ (∀ i, i < z0.length → w.cell? (x.add i) = some (.int .u8 (z0.getD i 0))) ∧ ∀ n ∈ z0, (Lit.int .u8 n).wf = true) (y0 : len0 * 1 ≤ 140737488351232) (w1 : (a1 = none ∧ len1 = 0 ∧ cap1 = 0 ∧ z1 = []) ∨ ∃ x, a1 = some x ∧ len1 ≤ cap1 ∧ cap1 ≤ maxLen ∧ z1.length = cap1 ∧ (∀ i, i < z1.length → w.cell? (x.add i) = some (.int .u8 (z1.getD i 0))) ∧ ∀ n ∈ z1, (Lit.int .u8 n).wf = true) (y1 : len1 * 1 ≤ 140737488351232) :
 Calls Try.prog 4 #[.slice a0 len0 cap0, .slice a1 len1 cap1] w fun e w' => e = .returned (.bool true) ∧ Below w.heap.size w w' := by
 obtain ⟨l0, rfl, hr0, hm0, hw0, hc0⟩ := ReadsInt.ofRowC w0
 obtain ⟨l1, rfl, hr1, hm1, hw1, hc1⟩ := ReadsInt.ofRowC w1
 obtain ⟨k, h⟩ := P l0 l1 hm0 y0 hw0 hm1 y1 hw1
 refine (laws_FnMeetsAndJoins.calls k _ _ l0 _ _ l1 true w (Kd.C_of_reads (d := (0 : Int)) (h1 := fun _ => rfl) hr0) hc0 (Kd.C_of_reads (d := (0 : Int)) (h1 := fun _ => rfl) hr1) hc1 h).mono ?_
 rintro e w' ⟨rfl, hd⟩
 exact ⟨rfl, hd⟩
theorem w64 {x : Int} (h1 : -9223372036854775808 ≤ x) (h2 : x ≤ 9223372036854775807) : wrap64 x = x := by
 unfold wrap64
 omega
theorem wsucc {i : Nat} {n : Nat} (h : i < n) (hn : n ≤ 9223372036854775807) : wrap64 ((i : Int) + 1) = ((i + 1 : Nat) : Int) := by
 rw [w64 (by omega) (by omega)]
 omega
theorem rdn {xs : List Int} {i : Nat} (h : i < xs.length) : rd xs (i : Int) = xs[i] := by
 simp [rd, h]
theorem Ev.succ {α : Type} {g : Nat → Option α} {r : α} (h : Ev (fun k => g (k + 1)) r) : Ev g r := Ev.step (fun _ => rfl) h
theorem Ev.get {α : Type} {g : Nat → Option α} {r : α} (h : Ev g r) : ∃ k, g k = some r := Ev.rounds h
theorem Ev.ite {α : Type} {c : Prop} [Decidable c] {g f : Nat → Option α} {r s : α} (h : c → Ev g r) (h' : ¬ c → Ev f s) : Ev (fun k => if c then g k else f k) (if c then r else s) := by
 by_cases hc : c
 · simp only [hc, if_true]
   exact h hc
 · simp only [hc, if_false]
   exact h' hc
theorem ev_all {xs : List Int} {g : Nat → Int → Option Bool} (p : Int → Bool) (hend : Ev (fun k => g k (xs.length : Int)) true)
 (hyes : ∀ (i : Nat) (h : i < xs.length) r, p xs[i] = true → Ev (fun k => g k ((i + 1 : Nat) : Int)) r → Ev (fun k => g k (i : Int)) r)
 (hno : ∀ (i : Nat) (h : i < xs.length), p xs[i] = false → Ev (fun k => g k (i : Int)) false) :
 ∀ (n i : Nat), i + n = xs.length → Ev (fun k => g k (i : Int)) ((xs.drop i).all p)
 | 0, i, h => by
  rw [List.drop_eq_nil_of_le (by omega), show i = xs.length by omega]
  exact hend
 | n + 1, i, h => by
  have hi : i < xs.length := by omega
  rw [List.drop_eq_getElem_cons hi, List.all_cons]
  cases hp : p xs[i]
  · exact hno i hi hp
  · rw [Bool.true_and]
    exact hyes i hi _ hp (ev_all p hend hyes hno n (i + 1) (by omega))
theorem ev_fold {σ ρ : Type} {xs : List Int} {g : Nat → σ → Int → Option ρ} (step : σ → Int → σ) (I : σ → Nat → Prop) (fin : σ → ρ)
 (hend : ∀ s, I s xs.length → Ev (fun k => g k s (xs.length : Int)) (fin s))
 (hstep : ∀ (i : Nat) (h : i < xs.length) s r, I s i → I (step s xs[i]) (i + 1) → Ev (fun k => g k (step s xs[i]) ((i + 1 : Nat) : Int)) r → Ev (fun k => g k s (i : Int)) r)
 (hI : ∀ (i : Nat) (h : i < xs.length) s, I s i → I (step s xs[i]) (i + 1)) :
 ∀ (n i : Nat) (s : σ), i + n = xs.length → I s i → Ev (fun k => g k s (i : Int)) (fin ((xs.drop i).foldl step s))
 | 0, i, s, h, hs => by
  have e : i = xs.length := by omega
  subst e; rw [List.drop_eq_nil_of_le (by omega)]
  exact hend s hs
 | n + 1, i, s, h, hs => by
  have hi : i < xs.length := by omega
  rw [List.drop_eq_getElem_cons hi, List.foldl_cons]
  exact hstep i hi s _ hs (hI i hi s hs) (ev_fold step I fin hend hstep hI n (i + 1) _ (by omega) (hI i hi s hs))
theorem ev_build {α ρ : Type} {g : Nat → List α → Int → Option ρ} (L : List α) (fin : ρ) (hend : Ev (fun k => g k L (L.length : Int)) fin)
 (hstep : ∀ (i : Nat) (h : i < L.length) r, Ev (fun k => g k (L.take i ++ [L[i]]) ((i + 1 : Nat) : Int)) r → Ev (fun k => g k (L.take i) (i : Int)) r) :
 ∀ (n i : Nat), i + n = L.length → Ev (fun k => g k (L.take i) (i : Int)) fin
 | 0, i, h => by
  have e : i = L.length := by omega
  subst e; rw [List.take_of_length_le (zcc _)]
  exact hend
 | n + 1, i, h => by
  have hi : i < L.length := by omega
  refine hstep i hi _ ?_
  rw [← List.take_succ_eq_append_getElem hi]
  exact ev_build L fin hend hstep n (i + 1) (by omega)
theorem rdi {xs : List Int} {i : Int} (h0 : 0 ≤ i) (h1 : i < xs.length) : rd xs i = xs[i.toNat]'(by omega) := by
 unfold rd
 rw [List.getD_eq_getElem?_getD, List.getElem?_eq_getElem (by omega)]
 rfl
theorem l1In_eq (a b c : Int) : spec_l1In.f a b c = some (decide (b ≤ a ∧ a ≤ c)) := by
 unfold spec_l1In.f
 by_cases h : b ≤ a <;> simp [h]
theorem within_eq (a b c : Int) : impl_within.f a b c = some (decide (b ≤ a ∧ a ≤ c)) := by
 unfold impl_within.f
 by_cases h : b ≤ a <;> simp [h]
def inR (lo hi : Int) (xs : List Int) : Bool := xs.all fun x => decide (lo ≤ x ∧ x ≤ hi)
theorem l1All_ev (xs : List Int) (lo hi : Int) (hx : xs.length ≤ 9223372036854775807) : Ev (fun k => spec_l1All.f k xs lo hi) (inR lo hi xs) := by
 have h := ev_all (xs := xs) (g := fun k i => spec_l1All.l0 k lo hi xs (xs.length : Int) i) (fun x => decide (lo ≤ x ∧ x ≤ hi))
  (Ev.succ (by simp only [spec_l1All.l0, if_neg (Int.lt_irrefl _)]; exact Ev.now _))
  (fun i h r hp hr => Ev.succ (by
   simp only [spec_l1All.l0, if_pos (show (i : Int) < (xs.length : Int) by omega), if_pos (show (0 : Int) ≤ (i : Int) by omega), rdn h, l1In_eq, zbb, hp, if_true, wsucc h hx]
   exact hr))
  (fun i h hp => Ev.succ (by
   simp only [spec_l1All.l0, if_pos (show (i : Int) < (xs.length : Int) by omega), if_pos (show (0 : Int) ≤ (i : Int) by omega), rdn h, l1In_eq, zbb, hp]
   exact Ev.now _)) xs.length 0 (by omega)
 exact h
theorem allWithin_ev (xs : List Int) (lo hi : Int) (hx : xs.length ≤ 9223372036854775807) : Ev (fun k => impl_allWithin.f k xs lo hi) (inR lo hi xs) := by
 have h := ev_all (xs := xs) (g := fun k i => impl_allWithin.l0 k lo hi xs (xs.length : Int) i) (fun x => decide (lo ≤ x ∧ x ≤ hi))
  (Ev.succ (by simp only [impl_allWithin.l0, if_neg (Int.lt_irrefl _)]; exact Ev.now _))
  (fun i h r hp hr => Ev.succ (by
   simp only [impl_allWithin.l0, if_pos (show (i : Int) < (xs.length : Int) by omega), if_pos (show (0 : Int) ≤ (i : Int) by omega), rdn h, within_eq, zbb, hp, if_true, wsucc h hx]
   exact hr))
  (fun i h hp => Ev.succ (by
   simp only [impl_allWithin.l0, if_pos (show (i : Int) < (xs.length : Int) by omega), if_pos (show (0 : Int) ≤ (i : Int) by omega), rdn h, within_eq, zbb, hp]
   exact Ev.now _)) xs.length 0 (by omega)
 exact h
mutual
def spec_liAll.l0 : Nat → Int → Int → List (List Int) → Int → Option ((List (List Int)))
 | 0, _, _, _, _ => none
 | k + 1, x0, x1, x7, x8 => if (wrap64 (x8 * x0)) ≥ x1 then (spec_liAll.j1 k x0 x1 x7 x8 (decide (x8 ≥ 0))) else (spec_liAll.j1 k x0 x1 x7 x8 false)
def spec_liAll.j1 : Nat → Int → Int → List (List Int) → Int → Bool → Option ((List (List Int)))
 | 0, _, _, _, _, _ => none
 | k + 1, x0, x1, x7, x8, x27 => if x27 = true then ((spec_liAll.f k (wrap64 (x0 - 1)) (wrap64 (x1 - x8)) x8).bind fun t677 => (spec_liAll.l1 k x0 x1 x7 x8 t677 (t677.length : Int) 0)) else (some x7)
def spec_liAll.l1 : Nat → Int → Int → List (List Int) → Int → List (List Int) → Int → Int → Option ((List (List Int)))
 | 0, _, _, _, _, _, _, _ => none
 | k + 1, x0, x1, x7, x8, x36, x37, x38 => if x38 < x37 then (if 0 ≤ x38 then (if x38 < (x36.length : Int) then ((some (([x8] : List Int) : List Int)).bind fun y681 => (if y681.length + (rd_L1 x36 x38).length < 17592186044416 then (if x7.length < 5864062014805 then (spec_liAll.l1 k x0 x1 (x7 ++ [(y681 ++ (rd_L1 x36 x38))]) x8 x36 x37 (wrap64 (x38 + 1))) else (none)) else (none))) else (none)) else (none)) else (spec_liAll.l0 k x0 x1 x7 (wrap64 (x8 - 1)))
def spec_liAll.f : Nat → Int → Int → Int → Option ((List (List Int)))
 | 0, _, _, _ => none
 | k + 1, a0, a1, a2 => if a0 = 0 then (if a1 = 0 then (some (([[]] : List (List Int)))) else (some ([] : List (List Int)))) else ((spec_l1Least.f a1 a2).bind fun t676 => (spec_liAll.l0 k a0 a1 ([] : List (List Int)) t676))
end
theorem l1Least_eq (a b : Int) : spec_l1Least.f a b = some (min a b) := by
 unfold spec_l1Least.f
 split <;> (congr 1; omega)
def allGo (F : Int → List (List Int)) (n s : Int) : Nat → List (List Int)
 | 0 => if 0 * n ≥ s then F 0 else []
 | t + 1 => if ((t + 1 : Nat) : Int) * n ≥ s then F ((t + 1 : Nat) : Int) ++ allGo F n s t else []
def allL : Nat → Int → Int → List (List Int)
 | 0, s, _ => if s = 0 then [[]] else []
 | n + 1, s, m => allGo (fun f => (allL n (s - f) f).map (f :: ·)) ((n + 1 : Nat) : Int) s (min s m).toNat
theorem allL_len : ∀ (n : Nat) (s m : Int) (x : List Int), x ∈ allL n s m → x.length = n
 | 0, s, m, x, h => by
  unfold allL at h
  split at h
  · simp at h
    subst h; rfl
  · simp at h
 | n + 1, s, m, x, h => by
  have key : ∀ (t : Nat), x ∈ allGo (fun f => (allL n (s - f) f).map (f :: ·)) ((n + 1 : Nat) : Int) s t → x.length = n + 1 := by
   intro t
   induction t with
   | zero =>
    intro h
    unfold allGo at h
    split at h
    · obtain ⟨y, hy, rfl⟩ := List.mem_map.1 h
      rw [List.length_cons, allL_len n _ _ y hy]
    · simp at h
   | succ t ih =>
    intro h
    unfold allGo at h
    split at h
    · rcases List.mem_append.1 h with h | h
      · obtain ⟨y, hy, rfl⟩ := List.mem_map.1 h
        rw [List.length_cons, allL_len n _ _ y hy]
      · exact ih h
    · simp at h
  unfold allL at h
  exact key _ h
theorem allL_count : ∀ (n : Nat) (s m : Int), s ≤ 30 → 0 ≤ s → (allL n s m).length ≤ 31 ^ n
 | 0, s, m, _, _ => by
  unfold allL
  split <;> simp
 | n + 1, s, m, hs, h0 => by
  have key : ∀ (t : Nat), (t : Int) ≤ s → (allGo (fun f => (allL n (s - f) f).map (f :: ·)) ((n + 1 : Nat) : Int) s t).length ≤ (t + 1) * 31 ^ n := by
   intro t
   induction t with
   | zero =>
    intro ht
    unfold allGo
    split
    · rw [List.length_map]
      have := allL_count n (s - 0) 0 (by omega) (by omega)
      omega
    · simp
   | succ t ih =>
    intro ht
    unfold allGo
    split
    · rw [List.length_append, List.length_map, Nat.succ_mul]
      have := ih (by omega)
      have := allL_count n (s - ((t + 1 : Nat) : Int)) ((t + 1 : Nat) : Int) (by omega) (by omega)
      omega
    · simp
  unfold allL
  have h1 := key (min s m).toNat (by omega)
  have h2 : ((min s m).toNat + 1) * 31 ^ n ≤ 31 * 31 ^ n := Nat.mul_le_mul_right _ (by omega)
  rw [Nat.pow_succ]
  omega
theorem pow31 {n : Nat} (h : n ≤ 8) : 31 ^ n ≤ 31 ^ 8 := Nat.pow_le_pow_right (by decide) h
theorem rdL {xs : List (List Int)} {i : Nat} (h : i < xs.length) : rd_L1 xs (i : Int) = xs[i] := by
 unfold rd_L1
 rw [Int.toNat_natCast, List.getD_eq_getElem?_getD, List.getElem?_eq_getElem h]
 rfl
theorem mn_eq (a b : Int) : mn a b = min a b := by unfold mn; omega
theorem implAll_l1 (n : Nat) (s f : Int) (rs : List (List Int)) (hr : ∀ x ∈ rs, x.length ≤ 8) (hrl : rs.length ≤ 1000000000000) (r : List (List Int)) : ∀ (d i : Nat) (acc : List (List Int)), i + d = rs.length → acc.length + d ≤ 2000000000000 → Ev (fun k => impl_rankings.l0 k (n : Int) s (acc ++ (rs.drop i).map (f :: ·)) (wrap64 (f - 1))) r → Ev (fun k => impl_rankings.l1 k (n : Int) s acc f rs (rs.length : Int) (i : Int)) r
 | 0, i, acc, h, hb, hR => by
  refine Ev.succ ?_
  simp only [impl_rankings.l1, if_neg (show ¬ (i : Int) < (rs.length : Int) by omega)]
  rw [List.drop_eq_nil_of_le (by omega), zav, List.append_nil] at hR
  exact hR
 | d + 1, i, acc, h, hb, hR => by
  have hi : i < rs.length := by omega
  have := hr _ (List.getElem_mem hi)
  refine Ev.succ ?_
  simp only [impl_rankings.l1, if_pos (show (i : Int) < (rs.length : Int) by omega), if_pos (show (0 : Int) ≤ (i : Int) by omega), zbb, rdL hi, if_pos (show ([f] : List Int).length + (rs[i]).length < 17592186044416 by rw [List.length_singleton]; omega), if_pos (show acc.length < 5864062014805 by omega), wsucc hi (by omega)]
  refine implAll_l1 n s f rs hr hrl r d (i + 1) _ (by omega) (by rw [List.length_append, List.length_singleton]; omega) ?_
  rw [List.drop_eq_getElem_cons hi, zau] at hR
  rw [List.append_assoc]
  exact hR
theorem implAll_ev : ∀ (n : Nat), n ≤ 8 → ∀ (s m : Int), s ≤ 30 → 0 ≤ s → 0 ≤ m → Ev (fun k => impl_rankings.f k (n : Int) s m) (allL n s m)
 | 0, _, s, m, hs, h0, hm => by
  refine Ev.succ ?_
  simp only [impl_rankings.f, if_pos (show ((0 : Nat) : Int) = 0 from rfl), allL]
  exact Ev.ite (fun _ => Ev.now _) (fun _ => Ev.now _)
 | n + 1, hn, s, m, hs, h0, hm => by
  have key : ∀ (t : Nat), (t : Int) ≤ 30 → (t : Int) ≤ s → ∀ acc : List (List Int), acc.length + (t + 1) * 31 ^ n ≤ 900000000000 → Ev (fun k => impl_rankings.l0 k ((n + 1 : Nat) : Int) s acc (t : Int)) (acc ++ allGo (fun f => (allL n (s - f) f).map (f :: ·)) ((n + 1 : Nat) : Int) s t) := by
   have h31 : 31 ^ n ≤ 852891037441 := by
    have h2 := pow31 (show n ≤ 8 by omega)
    have h3 : 31 ^ 8 = 852891037441 := by decide
    omega
   have step : ∀ (t : Nat), (t : Int) ≤ 30 → (t : Int) ≤ s → ∀ acc r, acc.length + (t + 1) * 31 ^ n ≤ 900000000000 → (t : Int) * ((n + 1 : Nat) : Int) ≥ s → Ev (fun k => impl_rankings.l0 k ((n + 1 : Nat) : Int) s (acc ++ (allL n (s - t) t).map ((t : Int) :: ·)) ((t : Int) - 1)) r → Ev (fun k => impl_rankings.l0 k ((n + 1 : Nat) : Int) s acc (t : Int)) r := by
    intro t ht hts acc r hb hc hR
    have hw : wrap64 ((t : Int) * ((n + 1 : Nat) : Int)) = (t : Int) * ((n + 1 : Nat) : Int) := by
     have h1 : (t : Int) * ((n + 1 : Nat) : Int) ≤ 30 * 8 := Int.mul_le_mul ht (by omega) (by omega) (by omega)
     have h2 : 0 ≤ (t : Int) * ((n + 1 : Nat) : Int) := Int.mul_nonneg (by omega) (by omega)
     exact w64 (by omega) (by omega)
    have hcnt := allL_count n (s - t) t (by omega) (by omega)
    rw [Nat.add_mul] at hb
    refine Ev.succ ?_
    simp only [impl_rankings.l0, hw, if_pos (show (t : Int) ≥ 0 by omega), zba hc]
    refine Ev.succ ?_
    simp only [impl_rankings.j1, if_true, w64 (x := ((n + 1 : Nat) : Int) - 1) (by omega) (by omega), w64 (x := s - (t : Int)) (by omega) (by omega)]
    rw [show ((n + 1 : Nat) : Int) - 1 = (n : Int) by omega]
    refine Ev.bind (implAll_ev n (by omega) (s - t) t (by omega) (by omega) (by omega)) ?_
    have := implAll_l1 (n + 1) s t (allL n (s - t) t) (fun x hx => by have := allL_len n _ _ x hx; omega) (by omega) r (allL n (s - t) t).length 0 acc (by omega) (by omega)
    rw [List.drop_zero, w64 (x := (t : Int) - 1) (by omega) (by omega)] at this
    exact this hR
   have stop : ∀ (t : Int) acc, 0 ≤ t → t ≤ 30 → ¬ t * ((n + 1 : Nat) : Int) ≥ s → Ev (fun k => impl_rankings.l0 k ((n + 1 : Nat) : Int) s acc t) acc := by
    intro t acc h1 h2 hc
    have hw : wrap64 (t * ((n + 1 : Nat) : Int)) = t * ((n + 1 : Nat) : Int) := by
     have h3 : t * ((n + 1 : Nat) : Int) ≤ 30 * 8 := Int.mul_le_mul h2 (by omega) (by omega) (by omega)
     have h4 : 0 ≤ t * ((n + 1 : Nat) : Int) := Int.mul_nonneg h1 (by omega)
     exact w64 (by omega) (by omega)
    refine Ev.succ ?_
    simp only [impl_rankings.l0, hw, if_pos (show t ≥ 0 from h1), zbh hc]
    refine Ev.succ ?_
    simp only [impl_rankings.j1, zbk, if_false]
    exact Ev.now _
   have low : ∀ acc, Ev (fun k => impl_rankings.l0 k ((n + 1 : Nat) : Int) s acc (-1)) acc := by
    intro acc
    refine Ev.succ ?_
    simp only [impl_rankings.l0, if_neg (show ¬ (-1 : Int) ≥ 0 by omega)]
    refine Ev.succ ?_
    simp only [impl_rankings.j1, zbk, if_false]
    exact Ev.now _
   intro t
   induction t with
   | zero =>
    intro h1 h2 acc hb
    unfold allGo
    by_cases hc : 0 * ((n + 1 : Nat) : Int) ≥ s
    · rw [if_pos hc]
      exact step 0 h1 h2 acc _ hb hc (low _)
    · rw [if_neg hc, List.append_nil]
      exact stop 0 acc (by omega) (by omega) hc
   | succ t ih =>
    intro h1 h2 acc hb
    unfold allGo
    by_cases hc : ((t + 1 : Nat) : Int) * ((n + 1 : Nat) : Int) ≥ s
    · rw [if_pos hc, ← List.append_assoc]
      refine step (t + 1) h1 h2 acc _ hb hc ?_
      rw [show ((t + 1 : Nat) : Int) - 1 = (t : Int) by omega]
      have hcnt := allL_count n (s - ((t + 1 : Nat) : Int)) ((t + 1 : Nat) : Int) (by omega) (by omega)
      refine ih (by omega) (by omega) _ ?_
      rw [List.length_append, List.length_map]
      have e : (t + 1 + 1) * 31 ^ n = (t + 1) * 31 ^ n + 31 ^ n := by rw [Nat.add_mul, Nat.one_mul]
      omega
    · rw [if_neg hc, List.append_nil]
      exact stop _ acc (by omega) h1 hc
  refine Ev.succ ?_
  simp only [impl_rankings.f, if_neg (show ¬ ((n + 1 : Nat) : Int) = 0 by omega), mn_eq, allL]
  have hb : ((min s m).toNat + 1) * 31 ^ n ≤ 31 * 31 ^ n := Nat.mul_le_mul_right _ (by omega)
  have h2 := pow31 (show n + 1 ≤ 8 from hn)
  rw [Nat.pow_succ] at h2
  have h3 : 31 ^ 8 = 852891037441 := by decide
  have := key (min s m).toNat (by omega) (by omega) [] (by rw [List.length_nil]; omega)
  rw [List.nil_append, show (((min s m).toNat : Nat) : Int) = min s m by omega] at this
  exact this
def goodL (xs : List Int) : Bool := if (1 : Int) ≤ xs.length ∧ (xs.length : Int) ≤ 8 then inR 0 60 xs else false
theorem goodL_iff (xs : List Int) : goodL xs = true ↔ 1 ≤ xs.length ∧ xs.length ≤ 8 ∧ ∀ x ∈ xs, 0 ≤ x ∧ x ≤ 60 := by
 unfold goodL inR
 by_cases h : (1 : Int) ≤ xs.length ∧ (xs.length : Int) ≤ 8
 · rw [if_pos h]
   simp only [List.all_eq_true, decide_eq_true_eq]
   exact ⟨fun h' => ⟨by omega, by omega, h'⟩, fun h' => h'.2.2⟩
 · rw [if_neg h]
   constructor
   · intro h'
     cases h'
   · intro h'
     omega
theorem liGood_ev (xs : List Int) (hx : xs.length ≤ 9223372036854775807) : Ev (fun k => spec_liGood.f k xs) (goodL xs) := by
 unfold spec_liGood.f goodL
 simp only [l1In_eq, zbb, decide_eq_true_eq]
 exact Ev.ite (fun _ => Ev.bind (l1All_ev xs 0 60 hx) (Ev.now _)) (fun _ => Ev.now _)
theorem implIsList_ev (xs : List Int) (hx : xs.length ≤ 9223372036854775807) : Ev (fun k => impl_IsList.f k xs) (goodL xs) := by
 unfold impl_IsList.f goodL
 simp only [within_eq, zbb, decide_eq_true_eq]
 exact Ev.ite (fun _ => Ev.bind (allWithin_ev xs 0 60 hx) (Ev.now _)) (fun _ => Ev.now _)


def cardB (n : Nat) (S : Nat → Bool) : Nat := (List.range n).countP S
theorem countP_sub {α : Type} (A B D : α → Bool) : ∀ l : List α, (∀ x ∈ l, A x = true → B x = true ∨ D x = true) → l.countP A ≤ l.countP B + l.countP D
 | [], _ => by simp
 | x :: l, h => by
  have ih := countP_sub A B D l (fun y hy => h y (List.mem_cons_of_mem _ hy))
  have hx := h x List.mem_cons_self
  rw [List.countP_cons, List.countP_cons, List.countP_cons]
  cases hA : A x with
  | false => simp only [zbk, if_false]; omega
  | true =>
   rcases hx hA with hB | hD
   · rw [hB]; simp only [if_true]; omega
   · rw [hD]; simp only [if_true]; omega
theorem countP_two {α : Type} (A B D : α → Bool) : ∀ l : List α, (∀ x ∈ l, B x = true → A x = true ∧ D x = false) → (∀ x ∈ l, D x = true → A x = true) → l.countP B + l.countP D ≤ l.countP A
 | [], _, _ => by simp
 | x :: l, h, k => by
  have ih := countP_two A B D l (fun y hy => h y (List.mem_cons_of_mem _ hy)) (fun y hy => k y (List.mem_cons_of_mem _ hy))
  have hx := h x List.mem_cons_self
  have kx := k x List.mem_cons_self
  rw [List.countP_cons, List.countP_cons, List.countP_cons]
  cases hB : B x with
  | true =>
   obtain ⟨h1, h2⟩ := hx hB
   rw [h1, h2]
   simp only [if_true, zbk, if_false]
   omega
  | false =>
   cases hD : D x with
   | true =>
    rw [kx hD]
    simp only [if_true, zbk, if_false]
    omega
   | false =>
    simp only [zbk, if_false]
    omega
theorem cardB_pos {n : Nat} {S : Nat → Bool} {i : Nat} (hi : i < n) (h : S i = true) : 0 < cardB n S := by
 unfold cardB
 rw [List.countP_pos_iff]
 exact ⟨i, List.mem_range.2 hi, h⟩
theorem cardB_ex {n : Nat} {S : Nat → Bool} (h : 0 < cardB n S) : ∃ i, i < n ∧ S i = true := by
 unfold cardB at h
 rw [List.countP_pos_iff] at h
 obtain ⟨i, hi, hs⟩ := h
 exact ⟨i, List.mem_range.1 hi, hs⟩
theorem cardB_one (n c : Nat) : cardB n (fun j => j == c) ≤ 1 := by
 have h := List.nodup_iff_count.1 (List.nodup_range (n := n)) c
 exact h
theorem cardB_le {n : Nat} {A B : Nat → Bool} (h : ∀ i, i < n → A i = true → B i = true) : cardB n A ≤ cardB n B := List.countP_mono_left fun i hi ha => h i (List.mem_range.1 hi) ha
def nbr (n : Nat) (P : Nat → Nat → Bool) (C S : Nat → Bool) (j : Nat) : Bool := C j && (List.range n).any fun i => S i && P i j
theorem nbr_iff {n : Nat} {P : Nat → Nat → Bool} {C S : Nat → Bool} {j : Nat} : nbr n P C S j = true ↔ C j = true ∧ ∃ i, i < n ∧ S i = true ∧ P i j = true := by
 unfold nbr
 simp only [Bool.and_eq_true, List.any_eq_true, List.mem_range]
theorem hall (n : Nat) (P : Nat → Nat → Bool) : ∀ (m : Nat) (R C : Nat → Bool), cardB n R ≤ m → (∀ S : Nat → Bool, (∀ i, i < n → S i = true → R i = true) → cardB n S ≤ cardB n (nbr n P C S)) → ∃ f : Nat → Nat, (∀ i, i < n → R i = true → f i < n ∧ C (f i) = true ∧ P i (f i) = true) ∧ ∀ i j, i < n → j < n → R i = true → R j = true → f i = f j → i = j
 | 0, R, C, hR, _ => by
  have hno : ∀ i, i < n → R i = true → False := fun i hi h => by have := cardB_pos hi h; omega
  exact ⟨id, fun i hi h => (hno i hi h).elim, fun i j hi _ h _ _ => (hno i hi h).elim⟩
 | m + 1, R, C, hR, hH => by
  by_cases hex : 0 < cardB n R
  · obtain ⟨r, hr, hRr⟩ := cardB_ex hex
    by_cases hB : ∃ S : Nat → Bool, (∀ i, i < n → S i = true → R i = true) ∧ 0 < cardB n S ∧ cardB n S < cardB n R ∧ cardB n (nbr n P C S) ≤ cardB n S
    · obtain ⟨S, hS, h0, h1, h2⟩ := hB
      obtain ⟨f1, a1, b1⟩ := hall n P m S C (by omega) (fun T hT => hH T (fun i hi h => hS i hi (hT i hi h)))
      have hsplit : cardB n (fun i => R i && !S i) + cardB n S ≤ cardB n R := countP_two R (fun i => R i && !S i) S (List.range n) (fun i _ h => taeb) (fun i hi h => hS i (List.mem_range.1 hi) h)
      obtain ⟨f2, a2, b2⟩ := hall n P m (fun i => R i && !S i) (fun j => C j && !nbr n P C S j) (by omega) (fun T hT => by
       have hT' : ∀ i, i < n → T i = true → R i = true ∧ S i = false := fun i hi h => by have := hT i hi h; simp only [Bool.and_eq_true, Bool.not_eq_true'] at this; exact this
       have e1 : cardB n T + cardB n S ≤ cardB n (fun i => T i || S i) := countP_two (fun i => T i || S i) T S (List.range n) (fun i hi h => ⟨by simp [h], (hT' i (List.mem_range.1 hi) h).2⟩) (fun i _ h => by simp [h])
       have e2 := hH (fun i => T i || S i) (fun i hi h => by
        simp only [Bool.or_eq_true] at h
        rcases h with h | h
        · exact (hT' i hi h).1
        · exact hS i hi h)
       have e3 : cardB n (nbr n P C (fun i => T i || S i)) ≤ cardB n (nbr n P (fun j => C j && !nbr n P C S j) T) + cardB n (nbr n P C S) := countP_sub _ _ _ (List.range n) (fun j _ h => by
        obtain ⟨hc, i, hi, hs, hp⟩ := nbr_iff.1 h
        by_cases hn : nbr n P C S j = true
        · exact .inr hn
        · refine .inl (nbr_iff.2 ⟨by simp only [Bool.and_eq_true, Bool.not_eq_true']; exact ⟨hc, by simpa using hn⟩, i, hi, ?_, hp⟩)
          simp only [Bool.or_eq_true] at hs
          rcases hs with hs | hs
          · exact hs
          · exact (hn (nbr_iff.2 ⟨hc, i, hi, hs, hp⟩)).elim)
       omega)
      have q1 : ∀ i, i < n → S i = true → nbr n P C S (f1 i) = true := fun i hi h => by
       obtain ⟨_, hc, hp⟩ := a1 i hi h
       exact nbr_iff.2 ⟨hc, i, hi, h, hp⟩
      have q2 : ∀ i, i < n → R i = true → ¬ S i = true → f2 i < n ∧ C (f2 i) = true ∧ nbr n P C S (f2 i) = false ∧ P i (f2 i) = true := fun i hi h hs => by
       obtain ⟨u, v, w⟩ := a2 i hi (taef)
       simp only [Bool.and_eq_true, Bool.not_eq_true'] at v
       exact ⟨u, v.1, v.2, w⟩
      refine ⟨fun i => if S i = true then f1 i else f2 i, fun i hi h => ?_, fun i j hi hj h k e => ?_⟩
      · show (if S i = true then f1 i else f2 i) < n ∧ C (if S i = true then f1 i else f2 i) = true ∧ P i (if S i = true then f1 i else f2 i) = true
        by_cases hs : S i = true
        · rw [if_pos hs]
          exact a1 i hi hs
        · rw [if_neg hs]
          obtain ⟨u, v, _, w⟩ := q2 i hi h hs
          exact ⟨u, v, w⟩
      · simp only at e
        by_cases hs : S i = true
        · by_cases ht : S j = true
          · rw [if_pos hs, if_pos ht] at e
            exact b1 i j hi hj hs ht e
          · rw [if_pos hs, if_neg ht] at e
            have x1 := q1 i hi hs
            have x2 := (q2 j hj k ht).2.2.1
            rw [e, x2] at x1
            cases x1
        · by_cases ht : S j = true
          · rw [if_neg hs, if_pos ht] at e
            have x1 := q1 j hj ht
            have x2 := (q2 i hi h hs).2.2.1
            rw [← e, x2] at x1
            cases x1
          · rw [if_neg hs, if_neg ht] at e
            exact b2 i j hi hj (taef) (taeg) e
    · have hA : ∀ T : Nat → Bool, (∀ i, i < n → T i = true → R i = true) → 0 < cardB n T → cardB n T < cardB n R → cardB n T + 1 ≤ cardB n (nbr n P C T) := fun T h1 h2 h3 => by
       have : ¬ cardB n (nbr n P C T) ≤ cardB n T := fun h4 => hB ⟨T, h1, h2, h3, h4⟩
       omega
      have hs1 : 0 < cardB n (fun i => i == r) := cardB_pos hr (taah)
      have hN := hH (fun i => i == r) (fun i _ h => by
       have e : i = r := by simpa using h
       rw [e]
       exact hRr)
      obtain ⟨c, hc, hnc⟩ := cardB_ex (show 0 < cardB n (nbr n P C (fun i => i == r)) by omega)
      obtain ⟨hCc, i0, _, hi0, hP⟩ := nbr_iff.1 hnc
      have ei0 : i0 = r := by simpa using hi0
      subst ei0
      have hsplit : cardB n (fun i => R i && !(i == i0)) + cardB n (fun i => i == i0) ≤ cardB n R := countP_two R (fun i => R i && !(i == i0)) (fun i => i == i0) (List.range n) (fun i _ h => taeb) (fun i _ h => by
       have e : i = i0 := by simpa using h
       rw [e]
       exact hRr)
      obtain ⟨f1, a1, b1⟩ := hall n P m (fun i => R i && !(i == i0)) (fun j => C j && !(j == c)) (by omega) (fun T hT => by
       by_cases ht0 : 0 < cardB n T
       · have hTR : ∀ i, i < n → T i = true → R i = true := fun i hi h => by have := hT i hi h; simp only [Bool.and_eq_true] at this; exact this.1
         have hle : cardB n T ≤ cardB n (fun i => R i && !(i == i0)) := cardB_le hT
         have g := hA T hTR ht0 (by omega)
         have e3 : cardB n (nbr n P C T) ≤ cardB n (nbr n P (fun j => C j && !(j == c)) T) + cardB n (fun j => j == c) := countP_sub _ _ _ (List.range n) (fun j _ h => by
          obtain ⟨hcj, i, hi, hs, hp⟩ := nbr_iff.1 h
          by_cases e : j = c
          · exact .inr (by simpa using e)
          · exact .inl (nbr_iff.2 ⟨by simp only [Bool.and_eq_true, Bool.not_eq_true']; exact ⟨hcj, by simpa using e⟩, i, hi, hs, hp⟩))
         have := cardB_one n c
         omega
       · omega)
      have q : ∀ i, i < n → R i = true → i ≠ i0 → f1 i < n ∧ C (f1 i) = true ∧ f1 i ≠ c ∧ P i (f1 i) = true := fun i hi h hne => by
       obtain ⟨u, v, w⟩ := a1 i hi (by simp only [Bool.and_eq_true, Bool.not_eq_true']; exact ⟨h, by simpa using hne⟩)
       simp only [Bool.and_eq_true, Bool.not_eq_true'] at v
       exact ⟨u, v.1, by simpa using v.2, w⟩
      refine ⟨fun i => if i = i0 then c else f1 i, fun i hi h => ?_, fun i j hi hj h k e => ?_⟩
      · show (if i = i0 then c else f1 i) < n ∧ C (if i = i0 then c else f1 i) = true ∧ P i (if i = i0 then c else f1 i) = true
        by_cases hs : i = i0
        · rw [if_pos hs, hs]
          exact ⟨hc, hCc, hP⟩
        · rw [if_neg hs]
          obtain ⟨u, v, _, w⟩ := q i hi h hs
          exact ⟨u, v, w⟩
      · simp only at e
        by_cases hs : i = i0
        · by_cases ht : j = i0
          · rw [hs, ht]
          · rw [if_pos hs, if_neg ht] at e
            exact ((q j hj k ht).2.2.1 e.symm).elim
        · by_cases ht : j = i0
          · rw [if_neg hs, if_pos ht] at e
            exact ((q i hi h hs).2.2.1 e).elim
          · rw [if_neg hs, if_neg ht] at e
            exact b1 i j hi hj (taef) (taeg) e
  · have hno : ∀ i, i < n → R i = true → False := fun i hi h => hex (cardB_pos hi h)
    exact ⟨id, fun i hi h => (hno i hi h).elim, fun i j hi _ h _ _ => (hno i hi h).elim⟩
theorem l1Own_eq (l : List Int) (hx : l.length ≤ 1048576) : spec_l1Own.f l = some l := by
 unfold spec_l1Own.f
 simp only [zbb, List.nil_append, List.length_nil, Nat.zero_add, if_pos (show l.length < 17592186044416 by omega)]
def insD : List Int → Int → List Int
 | [], x => [x]
 | y :: ys, x => if x ≤ y then y :: insD ys x else x :: y :: ys
def Desc (l : List Int) : Prop := l.Pairwise fun x y => y ≤ x
theorem insD_at (x : Int) : ∀ (out : List Int) (j : Nat), j ≤ out.length → (∀ i, i < j → ∀ h : i < out.length, x ≤ out[i]) → (∀ h : j < out.length, ¬ x ≤ out[j]) → insD out x = out.take j ++ [x] ++ out.drop j
 | [], j, hj, _, _ => by simp [insD]
 | y :: ys, 0, _, _, h => by
  have := h (taah)
  simp only [List.getElem_cons_zero] at this
  simp [insD, this]
 | y :: ys, j + 1, hj, h1, h2 => by
  have h0 := h1 0 (by omega) (taah)
  simp only [List.getElem_cons_zero] at h0
  have ih := insD_at x ys j (by simpa using hj) (fun i hi h => by have := h1 (i + 1) (by omega) (taba); simpa using this) (fun h => by have := h2 (taba); simpa using this)
  simp only [insD, if_pos h0, ih, List.take_succ_cons, List.drop_succ_cons, List.cons_append]
theorem insD_perm (x : Int) : ∀ out : List Int, (insD out x).Perm (x :: out)
 | [] => List.Perm.refl _
 | y :: ys => by
  unfold insD
  split
  · exact ((insD_perm x ys).cons y).trans (List.Perm.swap x y ys)
  · exact List.Perm.refl _
theorem insD_length (x : Int) (out : List Int) : (insD out x).length = out.length + 1 := by
 rw [(insD_perm x out).length_eq, List.length_cons]
theorem insD_desc (x : Int) : ∀ out : List Int, Desc out → Desc (insD out x)
 | [], _ => by simp [insD, Desc]
 | y :: ys, h => by
  unfold insD
  unfold Desc at h
  rw [List.pairwise_cons] at h
  split
  · next hc =>
    unfold Desc
    rw [List.pairwise_cons]
    refine ⟨fun z hz => ?_, insD_desc x ys h.2⟩
    rcases List.mem_cons.1 ((insD_perm x ys).mem_iff.1 hz) with rfl | hz
    · exact hc
    · exact h.1 z hz
  · next hc =>
    unfold Desc
    rw [List.pairwise_cons, List.pairwise_cons]
    refine ⟨fun z hz => ?_, h⟩
    rcases List.mem_cons.1 hz with rfl | hz
    · omega
    · have := h.1 z hz
      omega
theorem descL_perm (l : List Int) : (descL l).Perm l := List.mergeSort_perm l _
theorem descL_desc (l : List Int) : Desc (descL l) := by
 unfold descL Desc
 have h := List.pairwise_mergeSort (le := fun x y : Int => decide (y ≤ x)) (fun a b c h1 h2 => by simp only [decide_eq_true_eq] at *; omega) (fun a b => by simp only [Bool.or_eq_true, decide_eq_true_eq]; omega) l
 exact h.imp (fun h => taba)
theorem desc_unique {a b : List Int} (h : a.Perm b) (ha : Desc a) (hb : Desc b) : a = b :=
 List.Perm.eq_of_pairwise (le := fun x y : Int => y ≤ x) (fun x y _ _ h1 h2 => by omega) ha hb h
theorem descL_length (l : List Int) : (descL l).length = l.length := (descL_perm l).length_eq
theorem descL_mem {l : List Int} {x : Int} : x ∈ descL l ↔ x ∈ l := (descL_perm l).mem_iff
theorem descL_of_desc {l : List Int} (h : Desc l) : descL l = l := desc_unique (descL_perm l) (descL_desc l) h
theorem descL_descL (l : List Int) : descL (descL l) = descL l := descL_of_desc (descL_desc l)
theorem perm_sum {a b : List Int} (h : a.Perm b) : a.sum = b.sum := by
 induction h with
 | nil => rfl
 | cons x _ ih => simp only [List.sum_cons, ih]
 | swap x y l => simp only [List.sum_cons]; omega
 | trans _ _ ih1 ih2 => exact ih1.trans ih2
theorem descL_sum (l : List Int) : (descL l).sum = l.sum := perm_sum (descL_perm l)
theorem foldl_ins_perm : ∀ (l out : List Int), (l.foldl insD out).Perm (out ++ l)
 | [], out => by simp
 | x :: l, out => by
  rw [List.foldl_cons]
  refine (foldl_ins_perm l (insD out x)).trans ?_
  refine ((insD_perm x out).append_right l).trans ?_
  exact (List.perm_middle (a := x) (l₁ := out) (l₂ := l)).symm
theorem foldl_ins_desc : ∀ (l out : List Int), Desc out → Desc (l.foldl insD out)
 | [], out, h => h
 | x :: l, out, h => by
  rw [List.foldl_cons]
  exact foldl_ins_desc l _ (insD_desc x out h)
theorem foldl_ins (l : List Int) : l.foldl insD [] = descL l :=
 desc_unique ((by simpa using foldl_ins_perm l [] : (l.foldl insD []).Perm l).trans (descL_perm l).symm) (foldl_ins_desc l [] (by simp [Desc])) (descL_desc l)
def Sm (l : List Int) : Prop := l.length ≤ 1000 ∧ ∀ x ∈ l, 0 ≤ x ∧ x ≤ 1000
theorem good_sm {l : List Int} (h : goodL l = true) : Sm l := by
 have := (goodL_iff l).1 h
 exact ⟨by omega, fun x hx => by have := this.2.2 x hx; omega⟩
theorem sm_desc {l : List Int} (h : Sm l) : Sm (descL l) := ⟨by rw [descL_length]; exact h.1, fun x hx => h.2 x (descL_mem.1 hx)⟩
theorem ranking_eq {l : List Int} (h : Sm l) : impl_ranking.f l = some (descL l) := by
 unfold impl_ranking.f smallL
 rw [if_pos]
 simp only [Bool.and_eq_true, decide_eq_true_eq, List.all_eq_true]
 exact ⟨by have := h.1; omega, fun x hx => by have := h.2 x hx; omega⟩
theorem liRank_in (l : List Int) (x : Int) (i9 : Int) (out : List Int) (hout : out.length ≤ 1000000) (r : List Int) (hr : Ev (fun k => spec_liRank.l0 k (insD out x) l (l.length : Int) (wrap64 (i9 + 1))) r) :
 ∀ (n j : Nat), j + n = out.length → (∀ i, i < j → ∀ h : i < out.length, x ≤ out[i]) → Ev (fun k => spec_liRank.l1 k out x (j : Int) l (l.length : Int) i9) r
 | 0, j, h, hall => by
  refine Ev.succ ?_
  have e := insD_at x out j (by omega) hall (fun h' => by omega)
  simp only [spec_liRank.l1, if_neg (show ¬ (j : Int) < (out.length : Int) by omega), if_pos (show (0 : Int) ≤ (j : Int) by omega), if_pos (show (j : Int) ≤ (out.length : Int) by omega), Int.toNat_natCast, l1Own_eq (out.take j) (by rw [zax]; omega), zbb, List.length_append, zax, zaw, List.length_cons, List.length_nil]
  simp only [if_pos (show min j out.length + (0 + 1) < 17592186044416 by omega), if_pos (show min j out.length + (0 + 1) + (out.length - j) < 17592186044416 by omega)]
  rw [e] at hr
  exact hr
 | n + 1, j, h, hall => by
  have hj : j < out.length := by omega
  refine Ev.succ ?_
  by_cases c : x ≤ out[j]
  · simp only [spec_liRank.l1, if_pos (show (j : Int) < (out.length : Int) by omega), if_pos (show (0 : Int) ≤ (j : Int) by omega), rdn hj, if_pos (show out[j] ≥ x from c), wsucc hj (by omega)]
    refine liRank_in l x i9 out hout r hr n (j + 1) (by omega) (fun i hi h' => ?_)
    by_cases e : i = j
    · subst e
      exact c
    · exact hall i (by omega) h'
  · have e := insD_at x out j (by omega) hall (fun h' => c)
    simp only [spec_liRank.l1, if_pos (show (j : Int) < (out.length : Int) by omega), if_pos (show (0 : Int) ≤ (j : Int) by omega), rdn hj, if_neg (show ¬ out[j] ≥ x from c), if_pos (show (j : Int) ≤ (out.length : Int) by omega), Int.toNat_natCast, l1Own_eq (out.take j) (by rw [zax]; omega), zbb, List.length_append, zax, zaw, List.length_cons, List.length_nil]
    simp only [if_pos (show min j out.length + (0 + 1) < 17592186044416 by omega), if_pos (show min j out.length + (0 + 1) + (out.length - j) < 17592186044416 by omega)]
    rw [e] at hr
    exact hr
theorem liRank_ev (l : List Int) (hx : l.length ≤ 1000000) : Ev (fun k => spec_liRank.f k l) (descL l) := by
 unfold spec_liRank.f
 have h := ev_fold (xs := l) (g := fun k out i => spec_liRank.l0 k out l (l.length : Int) i) insD (fun out i => out.length = i) id
  (fun s _ => Ev.succ (by simp only [spec_liRank.l0, if_neg (Int.lt_irrefl _)]; exact Ev.now _))
  (fun i h s r hs _ hr => Ev.succ (by
   simp only [spec_liRank.l0, if_pos (show (i : Int) < (l.length : Int) by omega), if_pos (show (0 : Int) ≤ (i : Int) by omega), rdn h]
   exact liRank_in l l[i] (i : Int) s (by omega) r (by rw [wsucc h (by omega)]; exact hr) s.length 0 (by omega) (fun j hj => by omega)))
  (fun i h s hs => by rw [insD_length, hs]) l.length 0 [] (by omega) rfl
 rw [List.drop_zero, foldl_ins] at h
 exact h
def psums : Int → List Int → List Int
 | _, [] => []
 | s, x :: l => (s + x) :: psums (s + x) l
def psStep (s : List Int × Int) (x : Int) : List Int × Int := (s.1 ++ [s.2 + x], s.2 + x)
theorem foldl_ps : ∀ (l : List Int) (s : List Int × Int), (l.foldl psStep s).1 = s.1 ++ psums s.2 l
 | [], s => by simp [psums]
 | x :: l, s => by
  rw [List.foldl_cons, foldl_ps l]
  simp [psStep, psums]
theorem psums_length : ∀ (l : List Int) (s : Int), (psums s l).length = l.length
 | [], _ => rfl
 | x :: l, s => by simp [psums, psums_length l]
theorem psums_bd : ∀ (l : List Int) (s : Int) (B : Int), 0 ≤ s → 0 ≤ B → (∀ x ∈ l, 0 ≤ x ∧ x ≤ B) → ∀ y ∈ psums s l, 0 ≤ y ∧ y ≤ s + B * l.length
 | [], s, B, _, _, _, y, hy => by simp [psums] at hy
 | x :: l, s, B, h0, hB, hx, y, hy => by
  have h1 := hx x List.mem_cons_self
  have hBl : 0 ≤ B * (l.length : Int) := Int.mul_nonneg hB (by omega)
  have e : B * ((x :: l).length : Int) = B * (l.length : Int) + B := by
   rw [List.length_cons, Int.natCast_add, Int.mul_add]
   simp
  rw [psums, List.mem_cons] at hy
  rw [e]
  rcases hy with rfl | hy
  · omega
  · have := psums_bd l (s + x) B (by omega) hB (fun z hz => hx z (List.mem_cons_of_mem _ hz)) y hy
    omega
theorem sums_bd {l : List Int} (h : Sm l) : ∀ y ∈ psums 0 l, 0 ≤ y ∧ y ≤ 1000000 := by
 intro y hy
 have h1 := psums_bd l 0 1000 (by omega) (by omega) h.2 y hy
 have h2 := h.1
 omega
theorem liSums_ev (l : List Int) (h : Sm l) : Ev (fun k => spec_liSums.f k l) (psums 0 l) := by
 unfold spec_liSums.f
 have hl := h.1
 have h := ev_fold (xs := l) (g := fun k s i => spec_liSums.l0 k s.1 s.2 l (l.length : Int) i) psStep (fun s i => s.1.length = i ∧ 0 ≤ s.2 ∧ s.2 ≤ 1000 * (i : Int)) (fun s => s.1)
  (fun s _ => Ev.succ (by simp only [spec_liSums.l0, if_neg (Int.lt_irrefl _)]; exact Ev.now _))
  (fun i hi s r hs _ hr => Ev.succ (by
   have hb := h.2 _ (List.getElem_mem hi)
   simp only [spec_liSums.l0, if_pos (show (i : Int) < (l.length : Int) by omega), if_pos (show (0 : Int) ≤ (i : Int) by omega), rdn hi, if_pos (show s.1.length < 17592186044416 by omega), wsucc hi (by omega), w64 (x := s.2 + l[i]) (by omega) (by omega)]
   exact hr))
  (fun i hi s hs => by
   have hb := h.2 _ (List.getElem_mem hi)
   simp only [psStep, List.length_append, List.length_cons, List.length_nil]
   omega) l.length 0 ([], 0) (by omega) (taah)
 rw [List.drop_zero, foldl_ps] at h
 exact h
theorem partial_l (l : List Int) (h : Sm l) : Ev (fun k => impl_partial.l0 k [] 0 l (l.length : Int) 0) (psums 0 l) := by
 have hl := h.1
 have h := ev_fold (xs := l) (g := fun k s i => impl_partial.l0 k s.1 s.2 l (l.length : Int) i) psStep (fun s i => s.1.length = i ∧ 0 ≤ s.2 ∧ s.2 ≤ 1000 * (i : Int)) (fun s => s.1)
  (fun s _ => Ev.succ (by simp only [impl_partial.l0, if_neg (Int.lt_irrefl _)]; exact Ev.now _))
  (fun i hi s r hs _ hr => Ev.succ (by
   have hb := h.2 _ (List.getElem_mem hi)
   simp only [impl_partial.l0, if_pos (show (i : Int) < (l.length : Int) by omega), if_pos (show (0 : Int) ≤ (i : Int) by omega), rdn hi, if_pos (show s.1.length < 17592186044416 by omega), wsucc hi (by omega), w64 (x := s.2 + l[i]) (by omega) (by omega)]
   exact hr))
  (fun i hi s hs => by
   have hb := h.2 _ (List.getElem_mem hi)
   simp only [psStep, List.length_append, List.length_cons, List.length_nil]
   omega) l.length 0 ([], 0) (by omega) (taah)
 rw [List.drop_zero, foldl_ps] at h
 exact h
def partL (l : List Int) : List Int := psums 0 (descL l)
theorem liPartial_ev (l : List Int) (h : Sm l) : Ev (fun k => spec_liPartial.f k l) (partL l) := by
 unfold spec_liPartial.f
 exact Ev.bind (liRank_ev l (by have := h.1; omega)) (Ev.bind (liSums_ev _ (sm_desc h)) (Ev.now _))
theorem partial_ev (l : List Int) (h : Sm l) : Ev (fun k => impl_partial.f k l) (partL l) := by
 unfold impl_partial.f
 simp only [ranking_eq h, zbb]
 exact partial_l _ (sm_desc h)
theorem partL_length (l : List Int) : (partL l).length = l.length := by
 unfold partL
 rw [psums_length, descL_length]
theorem foldl_add : ∀ (l : List Int) (s : Int), l.foldl (fun s x => s + x) s = s + l.sum
 | [], s => by simp
 | x :: l, s => by
  rw [List.foldl_cons, foldl_add l, List.sum_cons]
  omega
theorem liSum_ev (l : List Int) (h : Sm l) : Ev (fun k => spec_liSum.f k l) l.sum := by
 unfold spec_liSum.f
 have hl := h.1
 have h := ev_fold (xs := l) (g := fun k s i => spec_liSum.l0 k s l (l.length : Int) i) (fun s x => s + x) (fun s i => 0 ≤ s ∧ s ≤ 1000 * (i : Int)) id
  (fun s _ => Ev.succ (by simp only [spec_liSum.l0, if_neg (Int.lt_irrefl _)]; exact Ev.now _))
  (fun i hi s r hs _ hr => Ev.succ (by
   have hb := h.2 _ (List.getElem_mem hi)
   simp only [spec_liSum.l0, if_pos (show (i : Int) < (l.length : Int) by omega), if_pos (show (0 : Int) ≤ (i : Int) by omega), rdn hi, wsucc hi (by omega), w64 (x := s + l[i]) (by omega) (by omega)]
   exact hr))
  (fun i hi s hs => by
   have hb := h.2 _ (List.getElem_mem hi)
   omega) l.length 0 0 (by omega) (by omega)
 rw [List.drop_zero, foldl_add, Int.zero_add] at h
 exact h
theorem total_ev (l : List Int) (h : Sm l) : Ev (fun k => impl_total.f k l) l.sum := by
 unfold impl_total.f
 have hl := h.1
 have h := ev_fold (xs := l) (g := fun k s i => impl_total.l0 k s l (l.length : Int) i) (fun s x => s + x) (fun s i => 0 ≤ s ∧ s ≤ 1000 * (i : Int)) id
  (fun s _ => Ev.succ (by simp only [impl_total.l0, if_neg (Int.lt_irrefl _)]; exact Ev.now _))
  (fun i hi s r hs _ hr => Ev.succ (by
   have hb := h.2 _ (List.getElem_mem hi)
   simp only [impl_total.l0, if_pos (show (i : Int) < (l.length : Int) by omega), if_pos (show (0 : Int) ≤ (i : Int) by omega), rdn hi, wsucc hi (by omega), w64 (x := s + l[i]) (by omega) (by omega)]
   exact hr))
  (fun i hi s hs => by
   have hb := h.2 _ (List.getElem_mem hi)
   omega) l.length 0 0 (by omega) (by omega)
 rw [List.drop_zero, foldl_add, Int.zero_add] at h
 exact h
def fitB (a b : List Int) : Bool := if (a.length : Int) = (b.length : Int) then (a.sum == b.sum) else false
theorem fitB_iff (a b : List Int) : fitB a b = true ↔ a.length = b.length ∧ a.sum = b.sum := by
 unfold fitB
 by_cases h : (a.length : Int) = (b.length : Int)
 · rw [if_pos h, beq_iff_eq]
   exact ⟨fun h' => ⟨by omega, h'⟩, fun h' => h'.2⟩
 · rw [if_neg h]
   exact ⟨fun h' => absurd h' (by decide), fun h' => absurd h'.1 (by omega)⟩
theorem liFit_ev (a b : List Int) (ha : Sm a) (hb : Sm b) : Ev (fun k => spec_liFit.f k a b) (fitB a b) := by
 unfold spec_liFit.f fitB
 exact Ev.ite (fun _ => Ev.bind (liSum_ev a ha) (Ev.bind (liSum_ev b hb) (Ev.now _))) (fun _ => Ev.now _)
theorem doFit_ev (a b : List Int) (ha : Sm a) (hb : Sm b) : Ev (fun k => impl_doFit.f k a b) (fitB a b) := by
 unfold impl_doFit.f fitB
 exact Ev.ite (fun _ => Ev.bind (total_ev a ha) (Ev.bind (total_ev b hb) (Ev.now _))) (fun _ => Ev.now _)
theorem areLists_ev (a b : List Int) (ha : a.length ≤ 1048576) (hb : b.length ≤ 1048576) : Ev (fun k => impl_areLists.f k a b) (if goodL a = true then goodL b else false) := by
 unfold impl_areLists.f
 exact Ev.bind (implIsList_ev a (by omega)) (Ev.ite (fun _ => Ev.bind (implIsList_ev b (by omega)) (Ev.now _)) (fun _ => Ev.now _))
def overL : Int → List Int → List Int → Int
 | i, x :: xs, y :: ys => if x > y then i + 1 else overL (i + 1) xs ys
 | _, _, _ => 0
theorem refused_l (p q : List Int) (h : p.length ≤ q.length) (hp : p.length ≤ 1000000) : ∀ (n i : Nat), i + n = p.length → Ev (fun k => impl_refused.l0 k q p (p.length : Int) (i : Int)) (overL (i : Int) (p.drop i) (q.drop i))
 | 0, i, hi => by
  refine Ev.succ ?_
  simp only [impl_refused.l0, if_neg (show ¬ (i : Int) < (p.length : Int) by omega)]
  rw [List.drop_eq_nil_of_le (by omega), overL]
  exact Ev.now _
  simp
 | n + 1, i, hi => by
  have h1 : i < p.length := by omega
  have h2 : i < q.length := by omega
  refine Ev.succ ?_
  simp only [impl_refused.l0, if_pos (show (i : Int) < (p.length : Int) by omega), if_pos (show (i : Int) < (q.length : Int) by omega), if_pos (show (0 : Int) ≤ (i : Int) by omega), rdn h1, rdn h2, wsucc h1 (by omega)]
  rw [List.drop_eq_getElem_cons h1, List.drop_eq_getElem_cons h2, overL]
  refine Ev.ite (fun _ => ?_) (fun _ => ?_)
  · rw [show ((i : Int) + 1) = ((i + 1 : Nat) : Int) by omega]
    exact Ev.now _
  · rw [show ((i : Int) + 1) = ((i + 1 : Nat) : Int) by omega]
    exact refused_l p q h hp n (i + 1) (by omega)
def overR (a b : List Int) : Int := overL 0 (partL a) (partL b)
theorem refused_ev (a b : List Int) (ha : Sm a) (hb : Sm b) (h : a.length ≤ b.length) : Ev (fun k => impl_refused.f k a b) (overR a b) := by
 unfold impl_refused.f
 exact Ev.bind (partial_ev b hb) (Ev.bind (partial_ev a ha) (refused_l _ _ (by rw [partL_length, partL_length]; exact h) (by rw [partL_length]; have := ha.1; omega) (partL a).length 0 (by omega)))
theorem overL_zero : ∀ (p q : List Int) (i : Int), 0 ≤ i → (overL i p q = 0 ↔ ∀ (j : Nat) (h1 : j < p.length) (h2 : j < q.length), p[j] ≤ q[j])
 | [], q, i, _ => by simp [overL]
 | x :: p, [], i, _ => by simp [overL]
 | x :: p, y :: q, i, h => by
  unfold overL
  by_cases c : x > y
  · rw [if_pos c]
    refine ⟨fun h' => by omega, fun h' => ?_⟩
    have := h' 0 (taah) (taah)
    simp only [List.getElem_cons_zero] at this
    omega
  · rw [if_neg c, overL_zero p q (i + 1) (by omega)]
    constructor
    · intro h' j h1 h2
      cases j with
      | zero => simp only [List.getElem_cons_zero]; omega
      | succ j =>
       rw [List.getElem_cons_succ, List.getElem_cons_succ]
       exact h' j (by rw [List.length_cons] at h1; omega) (by rw [List.length_cons] at h2; omega)
    · intro h' j h1 h2
      have h3 := h' (j + 1) (by rw [List.length_cons]; omega) (by rw [List.length_cons]; omega)
      rw [List.getElem_cons_succ, List.getElem_cons_succ] at h3
      exact h3
def majB (a b : List Int) : Bool := if fitB a b = true then (overR a b == 0) else false
theorem isMajorized_ev (a b : List Int) (ha : Sm a) (hb : Sm b) : Ev (fun k => impl_isMajorized.f k a b) (majB a b) := by
 unfold impl_isMajorized.f majB
 exact Ev.bind (doFit_ev a b ha hb) (Ev.ite (fun h => Ev.bind (refused_ev a b ha hb (by have := (fitB_iff a b).1 h; omega)) (Ev.now _)) (fun _ => Ev.now _))
theorem majB_iff (a b : List Int) : majB a b = true ↔ a.length = b.length ∧ a.sum = b.sum ∧ ∀ (j : Nat) (h1 : j < (partL a).length) (h2 : j < (partL b).length), (partL a)[j] ≤ (partL b)[j] := by
 unfold majB overR
 by_cases h : fitB a b = true
 · rw [if_pos h, beq_iff_eq, overL_zero _ _ _ (Int.le_refl _)]
   have := (fitB_iff a b).1 h
   simp only [this, true_and]
 · rw [if_neg h]
   rw [fitB_iff] at h
   constructor
   · intro h'
     exact absurd h' (by decide)
   · intro h'
     exact absurd ⟨h'.1, h'.2.1⟩ h
theorem mem_rd {l : List Int} {x : Int} (h : x ∈ l) : ∃ i : Int, 0 ≤ i ∧ i < l.length ∧ rd l i = x := by
 obtain ⟨i, hi, rfl⟩ := List.mem_iff_getElem.1 h
 exact ⟨(i : Int), by omega, by omega, rdn hi⟩
theorem rd_mem {l : List Int} {i : Int} (h0 : 0 ≤ i) (h1 : i < l.length) : rd l i ∈ l := by
 have hi : i.toNat < l.length := by omega
 have e : rd l i = l[i.toNat] := rdi h0 h1
 rw [e]
 exact List.getElem_mem hi
def pre (x : List Int) (m : Nat) : Int := (x.take m).sum
theorem pre_zero (x : List Int) : pre x 0 = 0 := rfl
theorem pre_succ {x : List Int} {m : Nat} (h : m < x.length) : pre x (m + 1) = pre x m + rd x (m : Int) := by
 unfold pre
 rw [List.take_succ_eq_append_getElem h, List.sum_append, rdn h, List.sum_cons, List.sum_nil, Int.add_zero]
theorem pre_all {x : List Int} {m : Nat} (h : x.length ≤ m) : pre x m = x.sum := by
 unfold pre
 rw [List.take_of_length_le h]
theorem psums_get : ∀ (l : List Int) (s : Int) (j : Nat) (h : j < (psums s l).length), (psums s l)[j] = s + pre l (j + 1)
 | [], s, j, h => by simp [psums] at h
 | x :: l, s, 0, h => by simp [psums, pre]
 | x :: l, s, j + 1, h => by
  have h' : j < (psums (s + x) l).length := by
   rw [psums, List.length_cons] at h
   omega
  have := psums_get l (s + x) j h'
  simp only [psums, List.getElem_cons_succ]
  rw [this]
  simp only [pre, List.take_succ_cons, List.sum_cons]
  omega
def Dom (x t : List Int) : Prop := x.length = t.length ∧ x.sum = t.sum ∧ ∀ m, pre t m ≤ pre x m
theorem majB_dom (a b : List Int) : majB a b = true ↔ Dom (descL b) (descL a) := by
 rw [majB_iff]
 unfold Dom
 rw [descL_length, descL_length, descL_sum, descL_sum]
 constructor
 · rintro ⟨h1, h2, h3⟩
   refine ⟨h1.symm, h2.symm, fun m => ?_⟩
   cases m with
   | zero => rw [pre_zero, pre_zero]; exact Int.le_refl _
   | succ m =>
    by_cases hm : m < a.length
    · have h := h3 m (by rw [partL_length]; exact hm) (by rw [partL_length]; omega)
      unfold partL at h
      rw [psums_get, psums_get] at h
      omega
    · rw [pre_all (taau), pre_all (taau), descL_sum, descL_sum]
      omega
 · rintro ⟨h1, h2, h3⟩
   refine ⟨h1.symm, h2.symm, fun j q1 q2 => ?_⟩
   have e1 : (partL a)[j] = 0 + pre (descL a) (j + 1) := psums_get _ _ _ q1
   have e2 : (partL b)[j] = 0 + pre (descL b) (j + 1) := psums_get _ _ _ q2
   have := h3 (j + 1)
   omega
theorem desc_rd {x : List Int} (h : Desc x) {a b : Nat} (hab : a ≤ b) (hb : b < x.length) : rd x (b : Int) ≤ rd x (a : Int) := by
 rw [rdn hb, rdn (show a < x.length by omega)]
 rcases Nat.lt_or_ge a b with hlt | hge
 · unfold Desc at h
   exact List.pairwise_iff_getElem.1 h a b (by omega) hb hlt
 · have : a = b := by omega
   subst this; exact Int.le_refl _
theorem desc_of_rd {x : List Int} (h : ∀ k : Nat, k + 1 < x.length → rd x ((k + 1 : Nat) : Int) ≤ rd x (k : Int)) : Desc x := by
 have key : ∀ (d a : Nat), a + d < x.length → rd x ((a + d : Nat) : Int) ≤ rd x (a : Int) := by
  intro d
  induction d with
  | zero => intro a _; exact Int.le_refl _
  | succ d ih =>
   intro a ha
   have h1 := ih a (by omega)
   have h2 := h (a + d) (by omega)
   have e : a + (d + 1) = a + d + 1 := by omega
   rw [e]
   omega
 unfold Desc
 rw [List.pairwise_iff_getElem]
 intro i j hi hj hij
 have := key (j - i) i (by omega)
 rw [show i + (j - i) = j from by omega, rdn hj, rdn hi] at this
 exact this
theorem allGo_mem {F : Int → List (List Int)} {n s : Int} {x : List Int} (hn : 0 ≤ n) : ∀ t : Nat, x ∈ allGo F n s t ↔ ∃ f : Nat, f ≤ t ∧ (f : Int) * n ≥ s ∧ x ∈ F (f : Int)
 | 0 => by
  unfold allGo
  constructor
  · intro h
    split at h
    · next hc => exact ⟨0, zcc _, by simpa using hc, taba⟩
    · simp at h
  · rintro ⟨f, hf, hc, hx⟩
    obtain rfl : f = 0 := by omega
    rw [if_pos (by simpa using hc)]
    simpa using hx
 | t + 1 => by
  have ih := allGo_mem (F := F) (s := s) (x := x) hn t
  unfold allGo
  constructor
  · intro h
    split at h
    · next hc =>
      rcases List.mem_append.1 h with h | h
      · exact ⟨t + 1, zcc _, hc, h⟩
      · obtain ⟨f, h1, h2, h3⟩ := ih.1 h
        exact ⟨f, by omega, h2, h3⟩
    · simp at h
  · rintro ⟨f, hf, hc, hx⟩
    have hm : (f : Int) * n ≤ ((t + 1 : Nat) : Int) * n := Int.mul_le_mul_of_nonneg_right (by omega) hn
    rw [if_pos (by omega)]
    by_cases e : f = t + 1
    · subst e
      exact List.mem_append.2 (.inl hx)
    · exact List.mem_append.2 (.inr (ih.2 ⟨f, by omega, hc, hx⟩))
theorem sum_le_of {f : Int} : ∀ y : List Int, (∀ z ∈ y, 0 ≤ z ∧ z ≤ f) → 0 ≤ y.sum ∧ y.sum ≤ f * (y.length : Int)
 | [], _ => by simp
 | z :: y, h => by
  have ih := sum_le_of y (fun w hw => h w (List.mem_cons_of_mem _ hw))
  have := h z List.mem_cons_self
  rw [List.sum_cons, List.length_cons, Int.natCast_succ, Int.mul_add]
  omega
theorem allL_mem : ∀ (n : Nat) (s m : Int) (x : List Int), 0 ≤ s → 0 ≤ m → (x ∈ allL n s m ↔ x.length = n ∧ Desc x ∧ (∀ y ∈ x, 0 ≤ y ∧ y ≤ m) ∧ x.sum = s)
 | 0, s, m, x, hs, hm => by
  unfold allL
  constructor
  · intro h
    split at h
    · next hc =>
      have : x = [] := by simpa using h
      subst this; exact ⟨rfl, List.Pairwise.nil, taah, by simp [hc]⟩
    · simp at h
  · rintro ⟨h1, _, _, h4⟩
    have : x = [] := List.length_eq_zero_iff.1 h1
    subst this; rw [if_pos (by simpa using h4.symm)]
    simp
 | n + 1, s, m, x, hs, hm => by
  unfold allL
  rw [allGo_mem (by omega)]
  constructor
  · rintro ⟨f, hf, hc, hx⟩
    obtain ⟨y, hy, rfl⟩ := List.mem_map.1 hx
    obtain ⟨h1, h2, h3, h4⟩ := (allL_mem n (s - f) f y (by omega) (by omega)).1 hy
    refine ⟨by simp [h1], List.pairwise_cons.2 ⟨fun z hz => (h3 z hz).2, h2⟩, fun z hz => ?_, by rw [List.sum_cons, h4]; omega⟩
    rcases List.mem_cons.1 hz with rfl | hz
    · omega
    · have := h3 z hz
      omega
  · rintro ⟨h1, h2, h3, h4⟩
    cases x with
    | nil => simp at h1
    | cons f y =>
     have hf := h3 f List.mem_cons_self
     have hd := List.pairwise_cons.1 h2
     have hy : ∀ z ∈ y, 0 ≤ z ∧ z ≤ f := fun z hz => ⟨(h3 z (List.mem_cons_of_mem _ hz)).1, hd.1 z hz⟩
     have hl : y.length = n := by simpa using h1
     have hb := sum_le_of y hy
     rw [hl] at hb
     rw [List.sum_cons] at h4
     have e : ((f.toNat : Nat) : Int) = f := by omega
     refine ⟨f.toNat, by omega, ?_, List.mem_map.2 ⟨y, ?_, by rw [e]⟩⟩
     · rw [e, Int.natCast_succ, Int.mul_add]
       omega
     · rw [e]
       exact (allL_mem n (s - f) f y (by omega) hf.1).2 ⟨hl, hd.2, hy, by omega⟩
def undL (a : List Int) : List (List Int) := (allL a.length a.sum a.sum).filter fun x => majB x a
def belR (a : List Int) : List (List Int) × Bool := if goodL a = true then (if a.sum ≤ 30 then (undL a, true) else ([], false)) else ([], false)
theorem gsum0 {a : List Int} (h : goodL a = true) : 0 ≤ a.sum := by
 have hs := good_sm h; exact (sum_le_of (f := 1000) a hs.2).1
theorem und_mem {a : List Int} (hg : goodL a = true) (x : List Int) : x ∈ undL a ↔ Desc x ∧ (∀ y ∈ x, 0 ≤ y ∧ y ≤ a.sum) ∧ majB x a = true := by
 unfold undL
 rw [List.mem_filter, allL_mem _ _ _ _ (gsum0 hg) (gsum0 hg)]
 constructor
 · rintro ⟨⟨_, h2, h3, _⟩, h5⟩
   exact ⟨h2, h3, h5⟩
 · rintro ⟨h2, h3, h5⟩
   have := (majB_iff x a).1 h5
   exact ⟨⟨this.1, h2, h3, this.2.1⟩, h5⟩
theorem mem_le_sum {f : Int} : ∀ y : List Int, (∀ z ∈ y, 0 ≤ z) → f ∈ y → f ≤ y.sum
 | [], _, h => by simp at h
 | z :: y, h, hf => by
  have hy : 0 ≤ y.sum := by
   clear hf; have := fun w hw => h w (List.mem_cons_of_mem z hw)
   clear h; induction y with
   | nil => simp
   | cons w y ih =>
    have h1 := this w List.mem_cons_self
    have h2 := ih (fun v hv => this v (List.mem_cons_of_mem _ hv))
    rw [List.sum_cons]
    omega
  rw [List.sum_cons]
  rcases List.mem_cons.1 hf with rfl | hf
  · omega
  · have := mem_le_sum y (fun w hw => h w (List.mem_cons_of_mem _ hw)) hf
    have := h z List.mem_cons_self
    omega
theorem maj_rank (a : List Int) : majB (descL a) a = true := (majB_dom _ _).2 (by rw [descL_descL]; exact ⟨rfl, rfl, fun _ => Int.le_refl _⟩)
theorem und_rank {a : List Int} (hg : goodL a = true) : descL a ∈ undL a := by
 have hs := good_sm hg; refine (und_mem hg _).2 ⟨descL_desc a, fun y hy => ?_, maj_rank a⟩
 have hy := descL_mem.1 hy
 exact ⟨(hs.2 y hy).1, mem_le_sum a (fun z hz => (hs.2 z hz).1) hy⟩
theorem und_pos {a : List Int} (hg : goodL a = true) : 0 < (undL a).length := List.length_pos_of_mem (und_rank hg)
theorem good_len {a : List Int} (h : goodL a = true) : 1 ≤ a.length ∧ a.length ≤ 8 := by
 unfold goodL at h
 split at h
 · omega
 · cases h
theorem all_sm {a : List Int} (hg : goodL a = true) (h30 : a.sum ≤ 30) {x : List Int} (hx : x ∈ allL a.length a.sum a.sum) : Sm x := by
 obtain ⟨h1, _, h3, _⟩ := (allL_mem _ _ _ _ (gsum0 hg) (gsum0 hg)).1 hx
 have := good_len hg
 exact ⟨by omega, fun y hy => by have := h3 y hy; omega⟩
theorem und_good {a : List Int} (hg : goodL a = true) (h30 : a.sum ≤ 30) {x : List Int} (hx : x ∈ undL a) : goodL x = true ∧ Sm x ∧ Desc x ∧ x.length = a.length ∧ x.sum = a.sum := by
 obtain ⟨h1, h2, h3⟩ := (und_mem hg x).1 hx
 obtain ⟨e1, e2, _⟩ := (majB_iff x a).1 h3
 have hl := good_len hg; have hs : Sm x := ⟨by omega, fun y hy => by have := h2 y hy; omega⟩
 refine ⟨?_, hs, h1, e1, e2⟩
 unfold goodL inR
 rw [if_pos (by omega), List.all_eq_true]
 intro y hy
 have := h2 y hy
 simp
 omega
theorem implBelow_ev (a : List Int) (hg : goodL a = true) (h30 : a.sum ≤ 30) : Ev (fun k => impl_below.f k a) (undL a) := by
 have hs := good_sm hg; have hl := good_len hg; have h0 := gsum0 hg; unfold impl_below.f
 refine Ev.bind (total_ev a hs) (Ev.bind (implAll_ev a.length hl.2 a.sum a.sum h30 h0 h0) ?_)
 have hpos : 0 < (allL a.length a.sum a.sum).length := by
  have := und_pos hg
  have := List.length_filter_le (fun x => majB x a) (allL a.length a.sum a.sum)
  unfold undL at *
  omega
 obtain ⟨K, hK⟩ : ∃ K, ∀ k, K ≤ k → ∀ x ∈ allL a.length a.sum a.sum, impl_isMajorized.f k x a = some (majB x a) := by
  have : ∀ l : List (List Int), (∀ x ∈ l, Sm x) → ∃ K, ∀ k, K ≤ k → ∀ x ∈ l, impl_isMajorized.f k x a = some (majB x a) := by
   intro l
   induction l with
   | nil => exact fun _ => ⟨0, fun _ _ x hx => by simp at hx⟩
   | cons y l ih =>
    intro hl
    obtain ⟨K1, h1⟩ := ih (fun x hx => hl x (List.mem_cons_of_mem _ hx))
    obtain ⟨K2, h2⟩ := isMajorized_ev y a (hl y List.mem_cons_self) hs
    refine ⟨max K1 K2, fun k hk x hx => ?_⟩
    rcases List.mem_cons.1 hx with rfl | hx
    · exact h2 k (by omega)
    · exact h1 k (by omega) x hx
  exact this _ (fun x hx => all_sm hg h30 hx)
 refine ⟨K, fun k hk => ?_⟩
 have e1 : majAll k a (allL a.length a.sum a.sum) = true := List.all_eq_true.2 fun x hx => by rw [hK k hk x hx]; rfl
 have e2 : majKept k a (allL a.length a.sum a.sum) = undL a := List.filter_congr fun x hx => by rw [hK k hk x hx]; cases majB x a <;> rfl
 show (if 0 < (allL a.length a.sum a.sum).length ∧ majAll k a (allL a.length a.sum a.sum) = true then some (majKept k a (allL a.length a.sum a.sum)) else none) = some (undL a)
 rw [if_pos ⟨hpos, e1⟩, e2]






theorem implBelowOf_ev (a : List Int) (ha : a.length ≤ 1048576) : Ev (fun k => impl_BelowOf.f k a) (belR a) := by
 unfold impl_BelowOf.f belR
 refine Ev.bind (implIsList_ev a (by omega)) (Ev.ite (fun hg => ?_) (fun _ => Ev.now _))
 refine Ev.bind (total_ev a (good_sm hg)) ?_
 by_cases h : a.sum ≤ 30
 · simp only [if_pos h, if_neg (show ¬ a.sum > 30 by omega)]
   exact Ev.bind (implBelow_ev a hg h) (Ev.now _)
 · simp only [if_neg h, if_pos (show a.sum > 30 by omega)]
   exact Ev.now _
theorem psums_inj : ∀ (a b : List Int) (s : Int), psums s a = psums s b → a = b
 | [], [], _, _ => rfl
 | [], y :: b, s, h => by simp [psums] at h
 | x :: a, [], s, h => by simp [psums] at h
 | x :: a, y :: b, s, h => by
  simp only [psums, List.cons.injEq] at h
  have e : x = y := by omega
  subst e; rw [psums_inj a b _ h.2]
theorem majB_cmp (a b : List Int) : majB a b = true ↔ a.length = b.length ∧ a.sum = b.sum ∧ ∀ (j : Nat) (h1 : j < (partL a).length) (h2 : j < (partL b).length), (partL a)[j] ≤ (partL b)[j] := by
 unfold majB
 by_cases h : fitB a b = true
 · rw [if_pos h, beq_iff_eq]
   unfold overR
   rw [overL_zero _ _ 0 (by omega)]
   have := (fitB_iff a b).1 h
   exact ⟨fun h' => ⟨this.1, this.2, h'⟩, fun h' => h'.2.2⟩
 · rw [if_neg h]
   exact ⟨fun h' => absurd h' (by decide), fun h' => absurd ((fitB_iff a b).2 ⟨h'.1, h'.2.1⟩) h⟩
theorem maj_both (a b : List Int) : (majB a b = true ∧ majB b a = true) ↔ (fitB a b = true ∧ descL a = descL b) := by
 rw [majB_cmp, majB_cmp, fitB_iff]
 constructor
 · rintro ⟨⟨h1, h2, h3⟩, _, _, h4⟩
   refine ⟨⟨h1, h2⟩, psums_inj _ _ 0 ?_⟩
   refine List.ext_getElem (by rw [psums_length, psums_length, descL_length, descL_length, h1]) (fun j h5 h6 => ?_)
   exact Int.le_antisymm (h3 j h5 h6) (h4 j h6 h5)
 · rintro ⟨⟨h1, h2⟩, h3⟩
   have e : partL a = partL b := by
    unfold partL
    rw [h3]
   refine ⟨⟨h1, h2, ?_⟩, h1.symm, h2.symm, ?_⟩
   · intro j h4 h5
     simp only [e]
     exact Int.le_refl _
   · intro j h4 h5
     simp only [e]
     exact Int.le_refl _
def incT (out : List Int) (m : Nat) : List Int := (out.take m).map (fun v => wrap64 (v + 1)) ++ out.drop m
theorem incT_length (out : List Int) (m : Nat) : (incT out m).length = out.length := by
 unfold incT
 rw [List.length_append, List.length_map, zax, zaw]
 omega
theorem incT_zero (out : List Int) : incT out 0 = out := by simp [incT]
theorem incT_set (out : List Int) (i : Nat) (h : i < out.length) : (incT out i).set i (wrap64 (rd (incT out i) (i : Int) + 1)) = incT out (i + 1) := by
 have hl : ((out.take i).map (fun v => wrap64 (v + 1))).length = i := by rw [List.length_map, zax]; omega
 have e : incT out i = (out.take i).map (fun v => wrap64 (v + 1)) ++ out[i] :: out.drop (i + 1) := by
  unfold incT
  rw [List.drop_eq_getElem_cons h]
 have er : rd (incT out i) (i : Int) = out[i] := by
  unfold rd
  rw [Int.toNat_natCast, List.getD_eq_getElem?_getD, e, List.getElem?_append_right (by omega), hl, Nat.sub_self]
  rfl
 rw [er, e, List.set_append_right _ _ (by omega), hl, Nat.sub_self, zab]
 unfold incT
 rw [List.take_succ_eq_append_getElem h, List.map_append, List.append_assoc]
 rfl
theorem ev_inc {ρ : Type} {g : Nat → List Int → Int → Option ρ} {r : ρ} (out : List Int) (m : Nat) (hm : m ≤ out.length) (hend : Ev (fun k => g k (incT out m) (m : Int)) r)
 (hstep : ∀ (i : Nat), i < m → Ev (fun k => g k ((incT out i).set i (wrap64 (rd (incT out i) (i : Int) + 1))) ((i + 1 : Nat) : Int)) r → Ev (fun k => g k (incT out i) (i : Int)) r) :
 ∀ (n i : Nat), i + n = m → Ev (fun k => g k (incT out i) (i : Int)) r
 | 0, i, h => by
  have e : i = m := by omega
  subst e; exact hend
 | n + 1, i, h => by
  refine hstep i (by omega) ?_
  rw [incT_set out i (by omega)]
  exact ev_inc out m hm hend hstep n (i + 1) (by omega)
def conjStep (n : Int) (out : List Int) (x : Int) : List Int := incT out (min x n).toNat
def conjL (l : List Int) (n : Int) : List Int := l.foldl (conjStep n) (List.replicate n.toNat 0)
theorem liConjugate_ev (l : List Int) (n : Int) (hx : l.length ≤ 1048576) (h0 : 0 ≤ n) (hn : n ≤ 1048576) : Ev (fun k => spec_liConjugate.f k l n) (conjL l n) := by
 unfold spec_liConjugate.f conjL
 simp only [if_pos h0, if_pos (show n.toNat ≤ 35184372088832 by omega)]
 have h := ev_fold (xs := l) (g := fun k out i => spec_liConjugate.l0 k n out l (l.length : Int) i) (conjStep n) (fun out _ => out.length = n.toNat) id
  (fun s _ => Ev.succ (by simp only [spec_liConjugate.l0, if_neg (Int.lt_irrefl _)]; exact Ev.now _))
  (fun i h s r hs _ hr => Ev.succ (by
   simp only [spec_liConjugate.l0, if_pos (show (i : Int) < (l.length : Int) by omega), if_pos (show (0 : Int) ≤ (i : Int) by omega), rdn h]
   have hi := ev_inc (g := fun k out j => spec_liConjugate.l1 k n out l[i] j l (l.length : Int) (i : Int)) (r := r) s (min l[i] n).toNat (by omega)
    (Ev.succ (by
     have hr' : Ev (fun k => spec_liConjugate.l0 k n (incT s (min l[i] n).toNat) l (l.length : Int) ((i + 1 : Nat) : Int)) r := hr
     simp only [spec_liConjugate.l1, wsucc h (by omega)]
     by_cases c1 : (((min l[i] n).toNat : Nat) : Int) < l[i]
     · simp only [if_pos c1, if_neg (show ¬ (((min l[i] n).toNat : Nat) : Int) < n by omega)]
       exact hr'
     · simp only [if_neg c1]
       exact hr'))
    (fun j hj hr2 => Ev.succ (by
     simp only [spec_liConjugate.l1, if_pos (show (j : Int) < l[i] by omega), if_pos (show (j : Int) < n by omega), if_pos (show (0 : Int) ≤ (j : Int) by omega), incT_length, if_pos (show (j : Int) < (s.length : Int) by omega), Int.toNat_natCast, w64 (x := (j : Int) + 1) (by omega) (by omega)]
     exact hr2)) (min l[i] n).toNat 0 (by omega)
   rw [incT_zero] at hi
   exact hi))
  (fun i h s hs => by unfold conjStep; rw [incT_length]; exact hs) l.length 0 (List.replicate n.toNat 0) (by omega) (taah)
 exact h
theorem implConj_ev (l : List Int) (n : Int) (hx : l.length ≤ 1048576) (h0 : 0 ≤ n) (hn : n ≤ 1048576) : Ev (fun k => impl_conjugate.f k l n) (conjL l n) := by
 unfold impl_conjugate.f conjL
 simp only [if_pos h0, if_pos (show n.toNat ≤ 35184372088832 by omega)]
 have h := ev_fold (xs := l) (g := fun k out i => impl_conjugate.l0 k n out l (l.length : Int) i) (conjStep n) (fun out _ => out.length = n.toNat) id
  (fun s _ => Ev.succ (by simp only [impl_conjugate.l0, if_neg (Int.lt_irrefl _)]; exact Ev.now _))
  (fun i h s r hs _ hr => Ev.succ (by
   simp only [impl_conjugate.l0, if_pos (show (i : Int) < (l.length : Int) by omega), if_pos (show (0 : Int) ≤ (i : Int) by omega), rdn h]
   have hmn : mn l[i] n = min l[i] n := by unfold mn; omega
   rw [hmn]
   have hi := ev_inc (g := fun k out j => impl_conjugate.l1 k n out l (l.length : Int) (i : Int) (min l[i] n) j) (r := r) s (min l[i] n).toNat (by omega)
    (Ev.succ (by
     have hr' : Ev (fun k => impl_conjugate.l0 k n (incT s (min l[i] n).toNat) l (l.length : Int) ((i + 1 : Nat) : Int)) r := hr
     simp only [impl_conjugate.l1, wsucc h (by omega), if_neg (show ¬ (((min l[i] n).toNat : Nat) : Int) < min l[i] n by omega)]
     exact hr'))
    (fun j hj hr2 => Ev.succ (by
     simp only [impl_conjugate.l1, if_pos (show (j : Int) < min l[i] n by omega), if_pos (show (0 : Int) ≤ (j : Int) by omega), incT_length, if_pos (show (j : Int) < (s.length : Int) by omega), Int.toNat_natCast, w64 (x := (j : Int) + 1) (by omega) (by omega)]
     exact hr2)) (min l[i] n).toNat 0 (by omega)
   rw [incT_zero] at hi
   exact hi))
  (fun i h s hs => by unfold conjStep; rw [incT_length]; exact hs) l.length 0 (List.replicate n.toNat 0) (by omega) (taah)
 exact h
theorem conjL_length (l : List Int) (n : Int) : (conjL l n).length = n.toNat := by
 unfold conjL
 have h : ∀ (xs : List Int) (s : List Int), (xs.foldl (conjStep n) s).length = s.length := by
  intro xs
  induction xs with
  | nil => intro s; rfl
  | cons x xs ih => intro s; rw [List.foldl_cons, ih]; unfold conjStep; exact incT_length _ _
 rw [h]
 simp
def fromL : Int → List Int → List Int
 | _, [] => []
 | l, s :: t => (s - l) :: fromL s t
theorem fromL_length : ∀ (l : Int) (s : List Int), (fromL l s).length = s.length
 | _, [] => rfl
 | l, s :: t => by simp [fromL, fromL_length s t]
theorem liFrom_l (s : List Int) (hs : ∀ y ∈ s, 0 ≤ y ∧ y ≤ 1000000) (hl : s.length ≤ 1000000) : ∀ (n i : Nat) (acc : List Int) (last : Int), i + n = s.length → acc.length = i → 0 ≤ last → last ≤ 1000000 → Ev (fun k => spec_liFrom.l0 k acc last s (s.length : Int) (i : Int)) (acc ++ fromL last (s.drop i))
 | 0, i, acc, last, h, ha, h0, h1 => by
  refine Ev.succ ?_
  simp only [spec_liFrom.l0, if_neg (show ¬ (i : Int) < (s.length : Int) by omega)]
  rw [List.drop_eq_nil_of_le (by omega), fromL, List.append_nil]
  exact Ev.now _
 | n + 1, i, acc, last, h, ha, h0, h1 => by
  have hi : i < s.length := by omega
  have hb := hs _ (List.getElem_mem hi)
  refine Ev.succ ?_
  simp only [spec_liFrom.l0, if_pos (show (i : Int) < (s.length : Int) by omega), if_pos (show (0 : Int) ≤ (i : Int) by omega), rdn hi, wsucc hi (by omega), if_pos (show acc.length < 17592186044416 by omega), w64 (x := s[i] - last) (by omega) (by omega)]
  have ih := liFrom_l s hs hl n (i + 1) (acc ++ [s[i] - last]) s[i] (by omega) (by simp [ha]) hb.1 hb.2
  rw [List.drop_eq_getElem_cons hi, fromL]
  rw [List.append_assoc] at ih
  exact ih
theorem liFrom_ev (s : List Int) (hs : ∀ y ∈ s, 0 ≤ y ∧ y ≤ 1000000) (hl : s.length ≤ 1000000) : Ev (fun k => spec_liFrom.f k s) (fromL 0 s) := by
 have h := liFrom_l s hs hl s.length 0 [] 0 (by omega) rfl (by omega) (by omega)
 exact h
def minL (p q : List Int) : List Int := List.zipWith (fun x y => min x y) p q
theorem minL_bd (p q : List Int) (hp : ∀ y ∈ p, 0 ≤ y ∧ y ≤ 1000000) (hq : ∀ y ∈ q, 0 ≤ y ∧ y ≤ 1000000) : ∀ y ∈ minL p q, 0 ≤ y ∧ y ≤ 1000000 := by
 intro y hy
 obtain ⟨i, hi, rfl⟩ := List.mem_iff_getElem.1 hy
 unfold minL at hi ⊢
 rw [List.length_zipWith] at hi
 rw [List.getElem_zipWith]
 have h1 := hp _ (List.getElem_mem (show i < p.length by omega))
 have h2 := hq _ (List.getElem_mem (show i < q.length by omega))
 omega
theorem implMeet_l (p q : List Int) (hl : p.length = q.length) (hm : p.length ≤ 1000000) (hp : ∀ y ∈ p, 0 ≤ y ∧ y ≤ 1000000) (hq : ∀ y ∈ q, 0 ≤ y ∧ y ≤ 1000000) : ∀ (n i : Nat) (acc : List Int) (last : Int), i + n = p.length → acc.length = i → 0 ≤ last → last ≤ 1000000 → Ev (fun k => impl_meet.l0 k acc last q p (p.length : Int) (i : Int)) (acc ++ fromL last ((minL p q).drop i))
 | 0, i, acc, last, h, ha, h0, h1 => by
  refine Ev.succ ?_
  simp only [impl_meet.l0, if_neg (show ¬ (i : Int) < (p.length : Int) by omega)]
  rw [List.drop_eq_nil_of_le (by unfold minL; rw [List.length_zipWith]; omega), fromL, List.append_nil]
  exact Ev.now _
 | n + 1, i, acc, last, h, ha, h0, h1 => by
  have hi : i < p.length := by omega
  have hj : i < q.length := by omega
  have b1 := hp _ (List.getElem_mem hi)
  have b2 := hq _ (List.getElem_mem hj)
  have hmn : mn p[i] q[i] = min p[i] q[i] := by unfold mn; omega
  refine Ev.succ ?_
  simp only [impl_meet.l0, if_pos (show (i : Int) < (p.length : Int) by omega), if_pos (show (i : Int) < (q.length : Int) by omega), if_pos (show (0 : Int) ≤ (i : Int) by omega), rdn hi, rdn hj, wsucc hi (by omega), if_pos (show acc.length < 17592186044416 by omega), hmn, w64 (x := min p[i] q[i] - last) (by omega) (by omega)]
  have ih := implMeet_l p q hl hm hp hq n (i + 1) (acc ++ [min p[i] q[i] - last]) (min p[i] q[i]) (by omega) (by simp [ha]) (by omega) (by omega)
  have hk : i < (minL p q).length := by unfold minL; rw [List.length_zipWith]; omega
  rw [List.drop_eq_getElem_cons hk, fromL]
  have e : (minL p q)[i] = min p[i] q[i] := by simp [minL]
  rw [e]
  rw [List.append_assoc] at ih
  exact ih
def meetL (a b : List Int) : List Int := fromL 0 (minL (partL a) (partL b))
theorem part_bd {a : List Int} (h : Sm a) : ∀ y ∈ partL a, 0 ≤ y ∧ y ≤ 1000000 := sums_bd (sm_desc h)
theorem implmeet_ev (a b : List Int) (ha : Sm a) (hb : Sm b) (hl : a.length = b.length) : Ev (fun k => impl_meet.f k a b) (meetL a b) := by
 unfold impl_meet.f
 have h1 := ha.1
 refine Ev.bind (partial_ev b hb) (Ev.bind (partial_ev a ha) ?_)
 exact implMeet_l (partL a) (partL b) (by rw [partL_length, partL_length, hl]) (by rw [partL_length]; omega) (part_bd ha) (part_bd hb) (partL a).length 0 [] 0 (by omega) rfl (by omega) (by omega)
theorem specMeet_l (p q : List Int) (hl : p.length = q.length) (hm : p.length ≤ 1000000) (hp : ∀ y ∈ p, 0 ≤ y ∧ y ≤ 1000000) (hq : ∀ y ∈ q, 0 ≤ y ∧ y ≤ 1000000) : Ev (fun k => spec_MeetOf.l0 k p q [] (p.length : Int) 0) (fromL 0 (minL p q), true) := by
 have hz : (minL p q).length = p.length := by unfold minL; rw [List.length_zipWith]; omega
 have h := ev_build (g := fun k acc i => spec_MeetOf.l0 k p q acc (p.length : Int) i) (minL p q) (fromL 0 (minL p q), true)
  (Ev.succ (by
   simp only [spec_MeetOf.l0, hz, if_neg (Int.lt_irrefl _)]
   exact Ev.bind (liFrom_ev _ (minL_bd p q hp hq) (by omega)) (Ev.now _)))
  (fun i h r hr => Ev.succ (by
   have hi : i < p.length := by rw [hz] at h; exact h
   have hj : i < q.length := by omega
   have e : (minL p q)[i] = min p[i] q[i] := by simp [minL]
   simp only [spec_MeetOf.l0, if_pos (show (i : Int) < (p.length : Int) by omega), if_pos (show (i : Int) < (q.length : Int) by omega), if_pos (show (0 : Int) ≤ (i : Int) by omega), rdn hi, rdn hj, wsucc hi (by omega), l1Least_eq, zbb, if_pos (show ((minL p q).take i).length < 17592186044416 by rw [zax, hz]; omega)]
   rw [e] at hr
   exact hr)) p.length 0 (by rw [hz]; omega)
 exact h
def meetR (a b : List Int) : List Int × Bool := if goodL a = true then (if goodL b = true then (if fitB a b = true then (meetL a b, true) else ([], false)) else ([], false)) else ([], false)
theorem specMeetOf_ev (a b : List Int) (ha : a.length ≤ 1048576) (hb : b.length ≤ 1048576) : Ev (fun k => spec_MeetOf.f k a b) (meetR a b) := by
 unfold spec_MeetOf.f meetR
 have J : Ev (fun k => spec_MeetOf.j0 k a b true) (([] : List Int), false) := Ev.succ (by simp only [spec_MeetOf.j0, if_true]; exact Ev.now _)
 refine Ev.bind (liGood_ev a (by omega)) (Ev.ite (fun ga => ?_) (fun _ => J))
 refine Ev.bind (liGood_ev b (by omega)) (Ev.ite (fun gb => ?_) (fun _ => J))
 refine Ev.bind (liFit_ev a b (good_sm ga) (good_sm gb)) ?_
 by_cases hf : fitB a b = true
 · have hl := ((fitB_iff a b).1 hf).1
   have h1 := (good_sm ga).1
   simp only [hf, Bool.not_true, if_true]
   refine Ev.succ ?_
   simp only [spec_MeetOf.j0, zbk, if_false]
   exact Ev.bind (liPartial_ev a (good_sm ga)) (Ev.bind (liPartial_ev b (good_sm gb)) (specMeet_l _ _ (by rw [partL_length, partL_length, hl]) (by rw [partL_length]; omega) (part_bd (good_sm ga)) (part_bd (good_sm gb))))
 · have hf' : fitB a b = false := zbg.2 hf
   simp only [hf', Bool.not_false, zbk, if_false]
   exact J
theorem implMeetOf_ev (a b : List Int) (ha : a.length ≤ 1048576) (hb : b.length ≤ 1048576) : Ev (fun k => impl_MeetOf.f k a b) (meetR a b) := by
 unfold impl_MeetOf.f meetR
 refine Ev.bind (areLists_ev a b ha hb) ?_
 by_cases ga : goodL a = true
 · by_cases gb : goodL b = true
   · simp only [ga, gb, if_true]
     exact Ev.bind (doFit_ev a b (good_sm ga) (good_sm gb)) (Ev.ite (fun hf => Ev.bind (implmeet_ev a b (good_sm ga) (good_sm gb) ((fitB_iff a b).1 hf).1) (Ev.now _)) (fun _ => Ev.now _))
   · simp only [ga, if_true, if_neg gb]
     exact Ev.now _
 · simp only [if_neg ga, zbk, if_false]
   exact Ev.now _
theorem meetL_length (a b : List Int) (hl : a.length = b.length) : (meetL a b).length = a.length := by
 unfold meetL minL
 rw [fromL_length, List.length_zipWith, partL_length, partL_length]
 omega
theorem meetR_len (a b : List Int) (ha : a.length ≤ 1048576) (hb : b.length ≤ 1048576) : (meetR a b).1.length ≤ 1048576 := by
 unfold meetR
 split
 · split
   · split
     · next h1 h2 h3 =>
       simp only [meetL_length a b ((fitB_iff a b).1 h3).1]
       exact ha
     · simp
   · simp
 · simp
end Go.Proofs.Ytdkimdlbjeobiaa.A
