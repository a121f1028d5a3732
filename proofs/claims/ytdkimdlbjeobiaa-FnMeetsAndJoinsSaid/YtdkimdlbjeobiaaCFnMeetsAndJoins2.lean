/- What the law FnMeetsAndJoins reaches, part 2: Lean functions with the same answers as the Go functions, the proofs that the Go code comes to these answers, and lemmas about them; no condition beyond those that each theorem names. -/
import Derived.Test.YtdkimdlbjeobiaaCFnMeetsAndJoinsw1
import Derived.Lib.SlKept
import Derived.Shelf.SlicesE.DeleteFunc
import Derived.Shelf.SlGeneric
import Derived.Shelf.SlLaysH
import Derived.Ground.SlgfProg
import Derived.Test.YtdkimdlbjeobiaaProg
import Derived.Deep.RegionHeld3
import Derived.Test.YtdkimdlbjeobiaaCFnMeetsAndJoins1
set_option linter.unusedVariables false
set_option linter.unusedSimpArgs false
set_option maxHeartbeats 8000000
set_option maxRecDepth 100000
namespace Go.Proofs.Ytdkimdlbjeobiaa.A
open Go.RowKit Go.Proofs.YtdkimdlbjeobiaaW.PrintWords Go.Proofs.YtdkimdlbjeobiaaW.PrintLast Go.Proofs.YtdkimdlbjeobiaaW.PrintMore
attribute [local go_sem] max2_int min2_int max_two min_two max_three min_three max_four min_four
def impl_JoinOf.j0 : Nat → List Int → List Int → Bool → Option (List Int × Bool)
 | 0, _, _, _ => none
 | k + 1, x0, x1, x16 => if x16 = true then (some (([] : List Int), false)) else ((slices_Max_int_int.f k x0).bind fun t464 => ((slices_Max_int_int.f k x1).bind fun t465 => ((impl_conjugate.f k x0 (mx t464 t465)).bind fun t466 => ((impl_conjugate.f k x1 (mx t464 t465)).bind fun t469 => ((impl_meet.f k t466 t469).bind fun t472 => ((impl_conjugate.f k t472 (x0.length : Int)).bind fun t475 => (some (t475, true))))))))
def impl_JoinOf.f (k : Nat) (l0 : List Int) (l1 : List Int) : Option (List Int × Bool) := (impl_areLists.f k l0 l1).bind fun t462 => (if t462 = true then ((impl_doFit.f k l0 l1).bind fun t463 => (impl_JoinOf.j0 k l0 l1 (!t463))) else (impl_JoinOf.j0 k l0 l1 true))
theorem impl_JoinOf.calls (k : Nat) (A0 : Option Addr) (c0 : Nat) (l0 : List Int) (A1 : Option Addr) (c1 : Nat) (l1 : List Int) (r1 : List Int) (r2 : Bool) (w : World) (hr0 : Kd.C (Kd.int .i64) w A0 l0.length l0) (hc0 : l0.length ≤ c0) (hr1 : Kd.C (Kd.int .i64) w A1 l1.length l1) (hc1 : l1.length ≤ c1) (h : impl_JoinOf.f k l0 l1 = some (r1, r2)) :
 Calls Try.prog 16 #[.slice A0 l0.length c0, .slice A1 l1.length c1] w fun e w' => ∃ v0_ : Value, e = .returned (.tuple #[v0_, .bool r2]) ∧ Kd.R (Kd.int .i64) 3 w' w.heap.size (fun _ => True) v0_ r1 ∧ Below w.heap.size w w' := by
 have HR0 := zad hr0; have HC0 := zad hc0; clear hr0 hc0; have HR1 := zad hr1; have HC1 := zad hc1; clear hr1 hc1; have HB := zad (Below.refl w.heap.size w)
 have H : ((impl_areLists.f k l0 l1).bind fun t462 => (if t462 = true then ((impl_doFit.f k l0 l1).bind fun t463 => (impl_JoinOf.j0 k l0 l1 (!t463))) else (impl_JoinOf.j0 k l0 l1 true))) = some (r1, r2) := h
 clear h; have HC3 := zad H; clear H; go_enter Try.func16, Try.ntmps16
 go_upto_region 1 with (fail)
 go_cut [16] (fun v16 wc => ∃ (kq : Nat) (x16_2 : Bool), v16 = .bool x16_2 ∧ Aside0 (impl_JoinOf.j0 kq l0 l1 x16_2 = some (r1, r2)) ∧ Aside0 (kq ≤ k) ∧ Aside0 (Below w.heap.size w wc))
 case first =>
  have H := HC3.out
  clear HC3; replace H := zay.mp H; obtain ⟨t462, A40, H⟩ := H
  replace H : (if t462 = true then ((impl_doFit.f k l0 l1).bind fun t463 => (impl_JoinOf.j0 k l0 l1 (!t463))) else (impl_JoinOf.j0 k l0 l1 true)) = some (r1, r2) := H
  have A4 := zad A40; clear A40; by_cases c5 : t462 = true
  · subst c5
    have H1 : ((impl_doFit.f k l0 l1).bind fun t463 => (impl_JoinOf.j0 k l0 l1 (!t463))) = some (r1, r2) := by rw [if_pos rfl] at H; exact H
    clear H; have H := H1; clear H1; replace H := zay.mp H; obtain ⟨t463, A60, H⟩ := H
    replace H : (impl_JoinOf.j0 k l0 l1 (!t463)) = some (r1, r2) := H
    have A6 := zad A60; clear A60; have H' := zad H
    clear H; go_wp2_with (first | ((with_reducible refine zbf (f := 49) rfl ?_); refine zbl (some 9) rfl rfl Try.func49 (by kernel_rfl) rfl #[.slice A0 l0.length c0, .slice A1 l1.length c1] rfl (taac) ?_; (with_reducible refine (impl_areLists.calls k _ _ l0 _ _ l1 true _ ?side1 ?side2 ?side3 ?side4 A4.out).mono ?_); (case side1 => repeat (first | exact (Kd.C_below HR0.out HB.out) | (with_reducible refine zal ?_ _) | (with_reducible refine zam ?_ _) | (with_reducible refine zan ?_))); (case side2 => exact HC0.out); (case side3 => repeat (first | exact (Kd.C_below HR1.out HB.out) | (with_reducible refine zal ?_ _) | (with_reducible refine zam ?_ _) | (with_reducible refine zan ?_))); (case side4 => exact HC1.out); rintro e w' ⟨rfl, ⟨nd, rfl⟩⟩; refine ⟨_, rfl, ?_⟩) | (go_at_call 50; (with_reducible refine (impl_doFit.calls k _ _ l0 _ _ l1 t463 _ ?side1 ?side2 ?side3 ?side4 A6.out).mono ?_); (case side1 => repeat (first | exact (Kd.C_below HR0.out (taaa)) | (with_reducible refine zal ?_ _) | (with_reducible refine zam ?_ _) | (with_reducible refine zan ?_))); (case side2 => exact HC0.out); (case side3 => repeat (first | exact (Kd.C_below HR1.out (taaa)) | (with_reducible refine zal ?_ _) | (with_reducible refine zam ?_ _) | (with_reducible refine zan ?_))); (case side4 => exact HC1.out); rintro e w' ⟨rfl, ⟨nd, rfl⟩⟩))
    go_meet
    case rel => exact ⟨_, (!t463), (taad), H', ⟨taay⟩, ⟨taaa⟩⟩
  · replace c5 := zbg.mpr c5
    subst c5; have H1 : (impl_JoinOf.j0 k l0 l1 true) = some (r1, r2) := by rw [if_neg (show ¬ (false = true) by decide)] at H; exact H
    clear H; have H := H1; clear H1; have H' := zad H
    clear H; go_wp2_with (first | ((with_reducible refine zbf (f := 49) rfl ?_); refine zbl (some 9) rfl rfl Try.func49 (by kernel_rfl) rfl #[.slice A0 l0.length c0, .slice A1 l1.length c1] rfl (taac) ?_; (with_reducible refine (impl_areLists.calls k _ _ l0 _ _ l1 false _ ?side1 ?side2 ?side3 ?side4 A4.out).mono ?_); (case side1 => exact taep); (case side2 => exact HC0.out); (case side3 => repeat (first | exact (Kd.C_below HR1.out HB.out) | (with_reducible refine zal ?_ _) | (with_reducible refine zam ?_ _) | (with_reducible refine zan ?_))); (case side4 => exact HC1.out); rintro e w' ⟨rfl, ⟨nd, rfl⟩⟩; refine ⟨_, rfl, ?_⟩))
    go_meet
    case rel => exact ⟨_, (true), (taad), H', ⟨taay⟩, ⟨taaa⟩⟩
 case rest =>
  clear HC3; try clear c1
  try clear p2
  try clear c4
  try clear c5
  obtain ⟨kq, x16_2, rfl, HA, HJ2, HB⟩ := hcut
  cases kq with
  | zero => exact absurd HA.out (by simp [impl_JoinOf.j0])
  | succ kj2 =>
   have H := HA.out
   clear HA; simp only [impl_JoinOf.j0] at H
   by_cases c7 : x16_2 = true
   · subst c7
     have H1 : (some (([] : List Int), false)) = some (r1, r2) := by rw [if_pos rfl] at H; exact H
     clear H; have H := H1; clear H1; simp only [zbj, zbn] at H
     obtain ⟨rfl, rfl⟩ := H
     go_wp2
     go_ret2
     exact ⟨_, taam, taaz, taaa⟩
   · replace c7 := zbg.mpr c7
     subst c7; have H1 : ((slices_Max_int_int.f kj2 l0).bind fun t464 => ((slices_Max_int_int.f kj2 l1).bind fun t465 => ((impl_conjugate.f kj2 l0 (mx t464 t465)).bind fun t466 => ((impl_conjugate.f kj2 l1 (mx t464 t465)).bind fun t469 => ((impl_meet.f kj2 t466 t469).bind fun t472 => ((impl_conjugate.f kj2 t472 (l0.length : Int)).bind fun t475 => (some (t475, true)))))))) = some (r1, r2) := by rw [if_neg (show ¬ (false = true) by decide)] at H; exact H
     clear H; have H := H1; clear H1; replace H := zay.mp H; obtain ⟨t464, A80, H⟩ := H
     replace H : ((slices_Max_int_int.f kj2 l1).bind fun t465 => ((impl_conjugate.f kj2 l0 (mx t464 t465)).bind fun t466 => ((impl_conjugate.f kj2 l1 (mx t464 t465)).bind fun t469 => ((impl_meet.f kj2 t466 t469).bind fun t472 => ((impl_conjugate.f kj2 t472 (l0.length : Int)).bind fun t475 => (some (t475, true))))))) = some (r1, r2) := H
     have A8 := zad A80; clear A80; replace H := zay.mp H; obtain ⟨t465, A90, H⟩ := H
     replace H : ((impl_conjugate.f kj2 l0 (mx t464 t465)).bind fun t466 => ((impl_conjugate.f kj2 l1 (mx t464 t465)).bind fun t469 => ((impl_meet.f kj2 t466 t469).bind fun t472 => ((impl_conjugate.f kj2 t472 (l0.length : Int)).bind fun t475 => (some (t475, true)))))) = some (r1, r2) := H
     have A9 := zad A90; clear A90; obtain ⟨ji10, hji10⟩ : ∃ j_ : Int, (mx t464 t465) = j_ := ⟨_, rfl⟩
     replace H : ((impl_conjugate.f kj2 l0 (ji10)).bind fun t466 => ((impl_conjugate.f kj2 l1 (ji10)).bind fun t469 => ((impl_meet.f kj2 t466 t469).bind fun t472 => ((impl_conjugate.f kj2 t472 (l0.length : Int)).bind fun t475 => (some (t475, true)))))) = some (r1, r2) := by first | (rw [hji10] at H; exact H) | (simp only [hji10] at H ⊢; exact H)
     (try rw [hji10] at A8)
     (try rw [hji10] at A9)
     have hji10_ : (if t464 < t465 then t465 else t464) = ji10 := hji10
     replace H := zay.mp H; obtain ⟨t466, A110, H⟩ := H
     replace H : ((impl_conjugate.f kj2 l1 (ji10)).bind fun t469 => ((impl_meet.f kj2 t466 t469).bind fun t472 => ((impl_conjugate.f kj2 t472 (l0.length : Int)).bind fun t475 => (some (t475, true))))) = some (r1, r2) := H
     have A11 := zad A110; clear A110; replace H := zay.mp H; obtain ⟨t469, A120, H⟩ := H
     replace H : ((impl_meet.f kj2 t466 t469).bind fun t472 => ((impl_conjugate.f kj2 t472 (l0.length : Int)).bind fun t475 => (some (t475, true)))) = some (r1, r2) := H
     have A12 := zad A120; clear A120; replace H := zay.mp H; obtain ⟨t472, A130, H⟩ := H
     replace H : ((impl_conjugate.f kj2 t472 (l0.length : Int)).bind fun t475 => (some (t475, true))) = some (r1, r2) := H
     have A13 := zad A130; clear A130; replace H := zay.mp H; obtain ⟨t475, A140, H⟩ := H
     replace H : (some (t475, true)) = some (r1, r2) := H
     have A14 := zad A140; clear A140; simp only [zbj, zbn] at H
     obtain ⟨rfl, rfl⟩ := H
     go_wp2_with (first | ((with_reducible refine zbf (f := 51) rfl ?_); refine zbl (some 18) rfl rfl Try.func51 (by kernel_rfl) rfl #[.slice A0 l0.length c0] rfl (taac) ?_; (with_reducible refine (slices_Max_int_int.calls kj2 _ _ l0 t464 _ ?side1 ?side2 A8.out).mono ?_); (case side1 => repeat (first | exact (Kd.C_below HR0.out HB.out) | (with_reducible refine zal ?_ _) | (with_reducible refine zam ?_ _) | (with_reducible refine zan ?_))); (case side2 => exact HC0.out); rintro e w15 ⟨rfl, hb⟩; refine ⟨_, rfl, ?_⟩; have n0_ := zad (zbe (taaa) hb); clear HB; have HB := n0_; clear n0_; (try clear hb); (try clear hb2); (try clear hk); (try clear hi)) | ((with_reducible refine zbf (f := 51) rfl ?_); refine zbl (some 20) rfl rfl Try.func51 (by kernel_rfl) rfl #[.slice A1 l1.length c1] rfl (taac) ?_; (with_reducible refine (slices_Max_int_int.calls kj2 _ _ l1 t465 _ ?side1 ?side2 A9.out).mono ?_); (case side1 => repeat (first | exact (Kd.C_below HR1.out HB.out) | (with_reducible refine zal ?_ _) | (with_reducible refine zam ?_ _) | (with_reducible refine zan ?_))); (case side2 => exact HC1.out); rintro e w16 ⟨rfl, hb⟩; refine ⟨_, rfl, ?_⟩; have n0_ := zad (zbe (taaa) hb); clear HB; have HB := n0_; clear n0_; (try clear hb); (try clear hb2); (try clear hk); (try clear hi)) | ((with_reducible refine zbf (f := 52) rfl ?_); refine zbl (some 24) rfl rfl Try.func52 (by kernel_rfl) rfl #[.slice A0 l0.length c0, .int .i64 ji10] rfl (tade) ?_; (with_reducible refine (impl_conjugate.calls kj2 _ _ l0 ji10 t466 _ ?side1 ?side2 A11.out).mono ?_); (case side1 => repeat (first | exact (Kd.C_below HR0.out HB.out) | (with_reducible refine zal ?_ _) | (with_reducible refine zam ?_ _) | (with_reducible refine zan ?_))); (case side2 => exact HC0.out); rintro e w17 ⟨v467, rfl, ho0, hb⟩; refine ⟨_, rfl, ?_⟩; have n0_ := zad (zbs ho0 (zbi (taaa))); have n1_ := zad (zbe (taaa) hb); clear HB; have HO468 := n0_; have HB := n1_; clear n0_ n1_; (try clear hb); (try clear hb2); (try clear hk); (try clear hi); (try clear ho0)) | ((with_reducible refine zbf (f := 52) rfl ?_); refine zbl (some 27) rfl rfl Try.func52 (by kernel_rfl) rfl #[.slice A1 l1.length c1, .int .i64 ji10] rfl (tade) ?_; (with_reducible refine (impl_conjugate.calls kj2 _ _ l1 ji10 t469 _ ?side1 ?side2 A12.out).mono ?_); (case side1 => repeat (first | exact (Kd.C_below HR1.out HB.out) | (with_reducible refine zal ?_ _) | (with_reducible refine zam ?_ _) | (with_reducible refine zan ?_))); (case side2 => exact HC1.out); rintro e w18 ⟨v470, rfl, ho0, hb⟩; refine ⟨_, rfl, ?_⟩; have n0_ := zad (zby (tabp) (zca ho0) hb); have n1_ := zad (zbs (zbz ho0 (zcb (tabp))) (zbi (taaa))); have n2_ := zad (zbe (taaa) hb); clear HO468 HB; have HO468 := n0_; have HO471 := n1_; have HB := n2_; clear n0_ n1_ n2_; (try clear hb); (try clear hb2); (try clear hk); (try clear hi); (try clear ho0); obtain ⟨Ao19, co19, eo19⟩ := zbt HO468.out; subst eo19; obtain ⟨Ao20, co20, eo20⟩ := zbt HO471.out; subst eo20) | ((with_reducible refine zbf (f := 53) rfl ?_); refine zbl (some 28) rfl rfl Try.func53 (by kernel_rfl) rfl #[.slice Ao19 t466.length co19, .slice Ao20 t469.length co20] rfl (taac) ?_; (with_reducible refine (impl_meet.calls kj2 _ _ t466 _ _ t469 t472 _ ?side1 ?side2 ?side3 ?side4 A13.out).mono ?_); (case side1 => repeat (first | exact (zbd HO468.out).2.2 | (with_reducible refine zal ?_ _) | (with_reducible refine zam ?_ _) | (with_reducible refine zan ?_))); (case side2 => exact (zbd HO468.out).2.1); (case side3 => repeat (first | exact (zbd HO471.out).2.2 | (with_reducible refine zal ?_ _) | (with_reducible refine zam ?_ _) | (with_reducible refine zan ?_))); (case side4 => exact (zbd HO471.out).2.1); rintro e w21 ⟨v473, rfl, ho0, hb⟩; refine ⟨_, rfl, ?_⟩; have n0_ := zad (zby (tabp) (zca ho0) hb); have n1_ := zad (zby (tacg) (zca ho0) hb); have n2_ := zad (zbs (zbz (zbz ho0 (zcb (tabp))) (zcb (tacg))) (zbi (taaa))); have n3_ := zad (zbe (taaa) hb); clear HO468 HO471 HB; have HO468 := n0_; have HO471 := n1_; have HO474 := n2_; have HB := n3_; clear n0_ n1_ n2_ n3_; (try clear hb); (try clear hb2); (try clear hk); (try clear hi); (try clear ho0); obtain ⟨Ao22, co22, eo22⟩ := zbt HO474.out; subst eo22) | ((with_reducible refine zbf (f := 52) rfl ?_); refine zbl (some 31) rfl rfl Try.func52 (by kernel_rfl) rfl #[.slice Ao22 t472.length co22, .int .i64 (l0.length : Int)] rfl (taac) ?_; (with_reducible refine (impl_conjugate.calls kj2 _ _ t472 (l0.length : Int) t475 _ ?side1 ?side2 A14.out).mono ?_); (case side1 => repeat (first | exact (zbd HO474.out).2.2 | (with_reducible refine zal ?_ _) | (with_reducible refine zam ?_ _) | (with_reducible refine zan ?_))); (case side2 => exact (zbd HO474.out).2.1); rintro e w23 ⟨v476, rfl, ho0, hb⟩; refine ⟨_, rfl, ?_⟩; have n0_ := zad (zby (tabp) (zca ho0) hb); have n1_ := zad (zby (tacg) (zca ho0) hb); have n2_ := zad (zby (tadf) (zca ho0) hb); have n3_ := zad (zbs (zbz (zbz (zbz ho0 (zcb (tabp))) (zcb (tacg))) (zcb (tadf))) (zbi (taaa))); have n4_ := zad (zbe (taaa) hb); clear HO468 HO471 HO474 HB; have HO468 := n0_; have HO471 := n1_; have HO474 := n2_; have HO477 := n3_; have HB := n4_; clear n0_ n1_ n2_ n3_ n4_; (try clear hb); (try clear hb2); (try clear hk); (try clear hi); (try clear ho0)))
     go_ret2
     exact ⟨_, by first | rfl | (simp [errW_none, errW_some] <;> rfl) | (simp only [← hji10]; first | rfl | (simp [errW_none, errW_some] <;> rfl)) | (simp [*, errW_none, errW_some] <;> rfl), by (with_reducible repeat (first | apply zai | apply zaj | apply zak)); exact zbo HO477.out (fun _ hk => trivial), taaa⟩
def spec_l1In.f (a0 : Int) (a1 : Int) (a2 : Int) : Option (Bool) := if a0 ≥ a1 then (some (decide (a0 ≤ a2))) else (some false)
theorem spec_l1In.calls (a0 : Int) (a1 : Int) (a2 : Int) (r : Bool) (w : World) (h : spec_l1In.f a0 a1 a2 = some r) :
 Calls Try.prog 66 #[.int .i64 a0, .int .i64 a1, .int .i64 a2] w fun e w' => e = .returned (.bool r) ∧ Drawn0 w w' := by
 have H : (if a0 ≥ a1 then (some (decide (a0 ≤ a2))) else (some false)) = some r := h
 clear h; by_cases c4 : a0 ≥ a1
 · rw [if_pos c4] at H
   have c4b0 : decide (a1 ≤ a0) = true := zba c4
   clear c4; obtain rfl := zbc H
   go_enter Try.func66, Try.ntmps66
   go_wp2
   go_ret
   exact ⟨taad, taap⟩
 · rw [if_neg c4] at H
   have c4b0 : decide (a1 ≤ a0) = false := zbh c4
   clear c4; obtain rfl := zbc H
   go_enter Try.func66, Try.ntmps66
   go_wp2
   go_ret
   exact ⟨taad, taap⟩
def spec_l1All.l0 : Nat → Int → Int → List Int → Int → Int → Option (Bool)
 | 0, _, _, _, _, _ => none
 | k + 1, x1, x2, x9, x10, x11 => if x11 < x10 then (if 0 ≤ x11 then (if x11 < (x9.length : Int) then ((spec_l1In.f (rd x9 x11) x1 x2).bind fun t102 => (if t102 = true then (spec_l1All.l0 k x1 x2 x9 x10 (wrap64 (x11 + 1))) else (some false))) else (none)) else (none)) else (some true)
def spec_l1All.f (k : Nat) (l0 : List Int) (a1 : Int) (a2 : Int) : Option (Bool) := spec_l1All.l0 k a1 a2 l0 (l0.length : Int) 0
theorem spec_l1All.calls (k : Nat) (A0 : Option Addr) (c0 : Nat) (l0 : List Int) (a1 : Int) (a2 : Int) (r : Bool) (w : World) (hr0 : Kd.C (Kd.int .i64) w A0 l0.length l0) (hc0 : l0.length ≤ c0) (h : spec_l1All.f k l0 a1 a2 = some r) :
 Calls Try.prog 68 #[.slice A0 l0.length c0, .int .i64 a1, .int .i64 a2] w fun e w' => e = .returned (.bool r) ∧ Drawn0 w w' := by
 have HR0 := zad hr0; have HC0 := zad hc0; clear hr0 hc0; have H : (spec_l1All.l0 k a1 a2 l0 (l0.length : Int) 0) = some r := h
 clear h; have H' := zad H
 clear H; go_enter Try.func68, Try.ntmps68
 go_wp2
 go_loopg [11] k (fun kq v11 w' => ∃ (x11_1 : Int), v11 = .int .i64 x11_1 ∧ Aside0 (spec_l1All.l0 kq a1 a2 l0 (l0.length : Int) x11_1 = some r) ∧ Aside0 (kq ≤ k) ∧ Drawn0 w w')
 case atStart => exact ⟨(0), (taad), H', ⟨zcc _⟩, taap⟩
 case round =>
  clear H'
  try clear p2
  obtain ⟨x11_1, rfl, HA, HK1, ⟨m1, rfl⟩⟩ := hrel
  cases gk with
  | zero => exact absurd HA.out (by simp [spec_l1All.l0])
  | succ k1 =>
   have H := HA.out
   clear HA; simp only [spec_l1All.l0] at H
   by_cases c4 : x11_1 < (l0.length : Int)
   · rw [if_pos c4] at H
     have c4b0 : decide (x11_1 < (l0.length : Int)) = true := zba c4
     clear c4; by_cases c5 : 0 ≤ x11_1
     · rw [if_pos c5] at H
       have c5b0 : decide (0 ≤ x11_1) = true := zba c5
       clear c5; by_cases c6 : x11_1 < (l0.length : Int)
       · rw [if_pos c6] at H
         have c6b0 : decide (x11_1 < (l0.length : Int)) = true := zba c6
         clear c6; replace H := zay.mp H; obtain ⟨t102, A70, H⟩ := H
         replace H : (if t102 = true then (spec_l1All.l0 k1 a1 a2 l0 (l0.length : Int) (wrap64 (x11_1 + 1))) else (some false)) = some r := H
         have A7 := zad A70; clear A70; by_cases c8 : t102 = true
         · subst c8
           have H1 : (spec_l1All.l0 k1 a1 a2 l0 (l0.length : Int) (wrap64 (x11_1 + 1))) = some r := by rw [if_pos rfl] at H; exact H
           clear H; have H := H1; clear H1; have H' := zad H
           clear H; have p101 : 0 ≤ (x11_1 : Int) := zas (taab)
           have q101 : x11_1 < (l0.length : Int) := zas (taab)
           obtain ⟨ad101, e101, hx101_0⟩ := zbx HR0.out x11_1 p101 q101
           cases e101
           replace p101 := eq_true p101
           replace q101 := eq_true q101
           go_wp2_with (first | ((with_reducible refine zbf (f := 66) rfl ?_); refine zbl (some 18) rfl rfl Try.func66 (by kernel_rfl) rfl #[.int .i64 (rd l0 x11_1), .int .i64 a1, .int .i64 a2] rfl (taac) ?_; (with_reducible refine (spec_l1In.calls (rd l0 x11_1) a1 a2 true _ A7.out).mono ?_); rintro e w' ⟨rfl, ⟨nd, rfl⟩⟩; refine ⟨_, rfl, ?_⟩))
           go_roundg k1
           case measure => have := HK1.out; omega
           case rel => exact ⟨(wrap64 (x11_1 + 1)), (taad), H', ⟨taaw⟩, taap⟩
         · replace c8 := zbg.mpr c8
           subst c8; have H1 : (some false) = some r := by rw [if_neg (show ¬ (false = true) by decide)] at H; exact H
           clear H; have H := H1; clear H1; obtain rfl := zbc H
           have p101 : 0 ≤ (x11_1 : Int) := zas (taab)
           have q101 : x11_1 < (l0.length : Int) := zas (taab)
           obtain ⟨ad101, e101, hx101_0⟩ := zbx HR0.out x11_1 p101 q101
           cases e101
           replace p101 := eq_true p101
           replace q101 := eq_true q101
           go_wp2_with (first | ((with_reducible refine zbf (f := 66) rfl ?_); refine zbl (some 18) rfl rfl Try.func66 (by kernel_rfl) rfl #[.int .i64 (rd l0 x11_1), .int .i64 a1, .int .i64 a2] rfl (taac) ?_; (with_reducible refine (spec_l1In.calls (rd l0 x11_1) a1 a2 false _ A7.out).mono ?_); rintro e w' ⟨rfl, ⟨nd, rfl⟩⟩; refine ⟨_, rfl, ?_⟩))
           go_ret
           exact ⟨taad, taap⟩
       · rw [if_neg c6] at H
         exact absurd H (taah)
     · rw [if_neg c5] at H
       exact absurd H (taah)
   · rw [if_neg c4] at H
     have c4b0 : decide (x11_1 < (l0.length : Int)) = false := zbh c4
     clear c4; obtain rfl := zbc H
     go_wp2
     go_ret
     exact ⟨taad, taap⟩
def spec_liGood.f (k : Nat) (l0 : List Int) : Option (Bool) := (spec_l1In.f (l0.length : Int) 1 8).bind fun t103 => (if t103 = true then ((spec_l1All.f k l0 0 60).bind fun t104 => (some t104)) else (some false))
theorem spec_liGood.calls (k : Nat) (A0 : Option Addr) (c0 : Nat) (l0 : List Int) (r : Bool) (w : World) (hr0 : Kd.C (Kd.int .i64) w A0 l0.length l0) (hc0 : l0.length ≤ c0) (h : spec_liGood.f k l0 = some r) :
 Calls Try.prog 31 #[.slice A0 l0.length c0] w fun e w' => e = .returned (.bool r) ∧ Drawn0 w w' := by
 have HR0 := zad hr0; have HC0 := zad hc0; clear hr0 hc0; have H : ((spec_l1In.f (l0.length : Int) 1 8).bind fun t103 => (if t103 = true then ((spec_l1All.f k l0 0 60).bind fun t104 => (some t104)) else (some false))) = some r := h
 clear h; replace H := zay.mp H; obtain ⟨t103, A20, H⟩ := H
 replace H : (if t103 = true then ((spec_l1All.f k l0 0 60).bind fun t104 => (some t104)) else (some false)) = some r := H
 have A2 := zad A20; clear A20; by_cases c3 : t103 = true
 · subst c3
   have H1 : ((spec_l1All.f k l0 0 60).bind fun t104 => (some t104)) = some r := by rw [if_pos rfl] at H; exact H
   clear H; have H := H1; clear H1; replace H := zay.mp H; obtain ⟨t104, A40, H⟩ := H
   replace H : (some t104) = some r := H
   have A4 := zad A40; clear A40; obtain rfl := zbc H
   go_enter Try.func31, Try.ntmps31
   go_wp2_with (first | ((with_reducible refine zbf (f := 66) rfl ?_); refine zbl (some 5) rfl rfl Try.func66 (by kernel_rfl) rfl #[.int .i64 (l0.length : Int), .int .i64 1, .int .i64 8] rfl (taac) ?_; (with_reducible refine (spec_l1In.calls (l0.length : Int) 1 8 true _ A2.out).mono ?_); rintro e w' ⟨rfl, ⟨nd, rfl⟩⟩; refine ⟨_, rfl, ?_⟩) | (go_at_call 68; (with_reducible refine (spec_l1All.calls k _ _ l0 0 60 t104 _ ?side1 ?side2 A4.out).mono ?_); (case side1 => repeat (first | exact HR0.out | (with_reducible refine zal ?_ _) | (with_reducible refine zam ?_ _) | (with_reducible refine zan ?_))); (case side2 => exact HC0.out); rintro e w' ⟨rfl, ⟨nd, rfl⟩⟩))
   go_ret
   exact ⟨taad, taap⟩
 · replace c3 := zbg.mpr c3
   subst c3; have H1 : (some false) = some r := by rw [if_neg (show ¬ (false = true) by decide)] at H; exact H
   clear H; have H := H1; clear H1; obtain rfl := zbc H
   go_enter Try.func31, Try.ntmps31
   go_wp2_with (first | ((with_reducible refine zbf (f := 66) rfl ?_); refine zbl (some 5) rfl rfl Try.func66 (by kernel_rfl) rfl #[.int .i64 (l0.length : Int), .int .i64 1, .int .i64 8] rfl (taac) ?_; (with_reducible refine (spec_l1In.calls (l0.length : Int) 1 8 false _ A2.out).mono ?_); rintro e w' ⟨rfl, ⟨nd, rfl⟩⟩; refine ⟨_, rfl, ?_⟩))
   go_ret
   exact ⟨taad, taap⟩
def spec_liSum.l0 : Nat → Int → List Int → Int → Int → Option (Int)
 | 0, _, _, _, _ => none
 | k + 1, x3, x6, x7, x8 => if x8 < x7 then (if 0 ≤ x8 then (if x8 < (x6.length : Int) then (spec_liSum.l0 k (wrap64 (x3 + (rd x6 x8))) x6 x7 (wrap64 (x8 + 1))) else (none)) else (none)) else (some x3)
def spec_liSum.f (k : Nat) (l0 : List Int) : Option (Int) := spec_liSum.l0 k 0 l0 (l0.length : Int) 0
theorem spec_liSum.calls (k : Nat) (A0 : Option Addr) (c0 : Nat) (l0 : List Int) (r : Int) (w : World) (hr0 : Kd.C (Kd.int .i64) w A0 l0.length l0) (hc0 : l0.length ≤ c0) (h : spec_liSum.f k l0 = some r) :
 Calls Try.prog 32 #[.slice A0 l0.length c0] w fun e w' => e = .returned (.int .i64 r) ∧ Drawn0 w w' := by
 have HR0 := zad hr0; have HC0 := zad hc0; clear hr0 hc0; have H : (spec_liSum.l0 k 0 l0 (l0.length : Int) 0) = some r := h
 clear h; have H' := zad H
 clear H; go_enter Try.func32, Try.ntmps32
 go_wp2
 go_loopg [3, 8] k (fun kq v3 v8 w' => ∃ (x3_1 : Int) (x8_1 : Int), v3 = .int .i64 x3_1 ∧ v8 = .int .i64 x8_1 ∧ Aside0 (spec_liSum.l0 kq x3_1 l0 (l0.length : Int) x8_1 = some r) ∧ Aside0 (kq ≤ k) ∧ Drawn0 w w')
 case atStart => exact ⟨(0), (0), (taad), (taad), H', ⟨zcc _⟩, taap⟩
 case round =>
  clear H'
  obtain ⟨x3_1, x8_1, rfl, rfl, HA, HK1, ⟨m1, rfl⟩⟩ := hrel
  cases gk with
  | zero => exact absurd HA.out (by simp [spec_liSum.l0])
  | succ k1 =>
   have H := HA.out
   clear HA; simp only [spec_liSum.l0] at H
   by_cases c2 : x8_1 < (l0.length : Int)
   · rw [if_pos c2] at H
     have c2b0 : decide (x8_1 < (l0.length : Int)) = true := zba c2
     clear c2; by_cases c3 : 0 ≤ x8_1
     · rw [if_pos c3] at H
       have c3b0 : decide (0 ≤ x8_1) = true := zba c3
       clear c3; by_cases c4 : x8_1 < (l0.length : Int)
       · rw [if_pos c4] at H
         have c4b0 : decide (x8_1 < (l0.length : Int)) = true := zba c4
         clear c4; have H' := zad H
         clear H; have p105 : 0 ≤ (x8_1 : Int) := zas (taab)
         have q105 : x8_1 < (l0.length : Int) := zas (taab)
         obtain ⟨ad105, e105, hx105_0⟩ := zbx HR0.out x8_1 p105 q105
         cases e105
         replace p105 := eq_true p105
         replace q105 := eq_true q105
         go_wp2
         go_roundg k1
         case measure => have := HK1.out; omega
         case rel => exact ⟨(wrap64 (x3_1 + (rd l0 x8_1))), (wrap64 (x8_1 + 1)), (taad), (taad), H', ⟨taaw⟩, taap⟩
       · rw [if_neg c4] at H
         exact absurd H (taah)
     · rw [if_neg c3] at H
       exact absurd H (taah)
   · rw [if_neg c2] at H
     have c2b0 : decide (x8_1 < (l0.length : Int)) = false := zbh c2
     clear c2; obtain rfl := zbc H
     go_wp2
     go_ret
     exact ⟨taad, taap⟩
def spec_liFit.f (k : Nat) (l0 : List Int) (l1 : List Int) : Option (Bool) := if (l0.length : Int) = (l1.length : Int) then ((spec_liSum.f k l0).bind fun t171 => ((spec_liSum.f k l1).bind fun t172 => (some (t171 == t172)))) else (some false)
theorem spec_liFit.calls (k : Nat) (A0 : Option Addr) (c0 : Nat) (l0 : List Int) (A1 : Option Addr) (c1 : Nat) (l1 : List Int) (r : Bool) (w : World) (hr0 : Kd.C (Kd.int .i64) w A0 l0.length l0) (hc0 : l0.length ≤ c0) (hr1 : Kd.C (Kd.int .i64) w A1 l1.length l1) (hc1 : l1.length ≤ c1) (h : spec_liFit.f k l0 l1 = some r) :
 Calls Try.prog 54 #[.slice A0 l0.length c0, .slice A1 l1.length c1] w fun e w' => e = .returned (.bool r) ∧ Drawn0 w w' := by
 have HR0 := zad hr0; have HC0 := zad hc0; clear hr0 hc0; have HR1 := zad hr1; have HC1 := zad hc1; clear hr1 hc1; have H : (if (l0.length : Int) = (l1.length : Int) then ((spec_liSum.f k l0).bind fun t171 => ((spec_liSum.f k l1).bind fun t172 => (some (t171 == t172)))) else (some false)) = some r := h
 clear h; by_cases c3 : (l0.length : Int) = (l1.length : Int)
 · rw [if_pos c3] at H
   have c3b0 : ((l0.length : Int) == (l1.length : Int)) = true := beq_iff_eq.mpr c3
   have c3b1 : ((l0.length : Int) != (l1.length : Int)) = false := bne_eq_false_iff_eq.mpr c3
   have c3b2 : (l0.length == l1.length) = true := by first | simpa using c3 | (simp at c3 ⊢; omega)
   clear c3; replace H := zay.mp H; obtain ⟨t171, A40, H⟩ := H
   replace H : ((spec_liSum.f k l1).bind fun t172 => (some (t171 == t172))) = some r := H
   have A4 := zad A40; clear A40; replace H := zay.mp H; obtain ⟨t172, A50, H⟩ := H
   replace H : (some (t171 == t172)) = some r := H
   have A5 := zad A50; clear A50; obtain rfl := zbc H
   go_enter Try.func54, Try.ntmps54
   go_wp2_with (first | (go_at_call 32; (with_reducible refine (spec_liSum.calls k _ _ l0 t171 _ ?side1 ?side2 A4.out).mono ?_); (case side1 => repeat (first | exact HR0.out | (with_reducible refine zal ?_ _) | (with_reducible refine zam ?_ _) | (with_reducible refine zan ?_))); (case side2 => exact HC0.out); rintro e w' ⟨rfl, ⟨nd, rfl⟩⟩) | (go_at_call 32; (with_reducible refine (spec_liSum.calls k _ _ l1 t172 _ ?side1 ?side2 A5.out).mono ?_); (case side1 => repeat (first | exact HR1.out | (with_reducible refine zal ?_ _) | (with_reducible refine zam ?_ _) | (with_reducible refine zan ?_))); (case side2 => exact HC1.out); rintro e w' ⟨rfl, ⟨nd, rfl⟩⟩))
   go_ret
   exact ⟨taad, taap⟩
 · rw [if_neg c3] at H
   have c3b0 : ((l0.length : Int) == (l1.length : Int)) = false := zbm.mpr c3
   have c3b1 : ((l0.length : Int) != (l1.length : Int)) = true := bne_iff_ne.mpr c3
   have c3b2 : (l0.length == l1.length) = false := by first | simpa using c3 | (simp at c3 ⊢; omega)
   obtain rfl := zbc H
   go_enter Try.func54, Try.ntmps54
   go_wp2
   go_ret
   exact ⟨taad, taap⟩
def spec_liFrom.l0 : Nat → List Int → Int → List Int → Int → Int → Option (List Int)
 | 0, _, _, _, _, _ => none
 | k + 1, x3, x4, x7, x8, x9 => if x9 < x8 then (if 0 ≤ x9 then (if x9 < (x7.length : Int) then (if x3.length < 17592186044416 then (spec_liFrom.l0 k (x3 ++ [wrap64 ((rd x7 x9) - x4)]) (rd x7 x9) x7 x8 (wrap64 (x9 + 1))) else (none)) else (none)) else (none)) else (some x3)
def spec_liFrom.f (k : Nat) (l0 : List Int) : Option (List Int) := spec_liFrom.l0 k ([] : List Int) 0 l0 (l0.length : Int) 0
theorem spec_liFrom.calls (k : Nat) (A0 : Option Addr) (c0 : Nat) (l0 : List Int) (r : List Int) (w : World) (hr0 : Kd.C (Kd.int .i64) w A0 l0.length l0) (hc0 : l0.length ≤ c0) (h : spec_liFrom.f k l0 = some r) :
 Calls Try.prog 58 #[.slice A0 l0.length c0] w fun e w' => ∃ v0_ : Value, e = .returned (v0_) ∧ Kd.R (Kd.int .i64) 3 w' w.heap.size (fun _ => True) v0_ r ∧ Below w.heap.size w w' := by
 have HR0 := zad hr0; have HC0 := zad hc0; clear hr0 hc0; have HB := zad (Below.refl w.heap.size w)
 have H : (spec_liFrom.l0 k ([] : List Int) 0 l0 (l0.length : Int) 0) = some r := h
 clear h; have H' := zad H
 clear H; go_enter Try.func58, Try.ntmps58
 go_wp2
 go_loopg [3, 4, 9] k (fun kq v3 v4 v9 w' => ∃ (x3_1 : List Int) (x4_1 : Int) (x9_1 : Int), v4 = .int .i64 x4_1 ∧ v9 = .int .i64 x9_1 ∧ Aside0 (spec_liFrom.l0 kq x3_1 x4_1 l0 (l0.length : Int) x9_1 = some r) ∧ Aside0 (kq ≤ k) ∧ Aside0 (Kd.R (Kd.int .i64) 3 w' w.heap.size (fun _ => True) v3 x3_1) ∧ Aside0 (Below w.heap.size w w'))
 case atStart => exact ⟨(([] : List Int)), (0), (0), (taad), (taad), H', ⟨zcc _⟩, ⟨taaz⟩, ⟨taaa⟩⟩
 case round =>
  clear H'
  obtain ⟨x3_1, x4_1, x9_1, rfl, rfl, HA, HK1, HO_3, HB⟩ := hrel
  cases gk with
  | zero => exact absurd HA.out (by simp [spec_liFrom.l0])
  | succ k1 =>
   have H := HA.out
   clear HA; simp only [spec_liFrom.l0] at H
   by_cases c2 : x9_1 < (l0.length : Int)
   · rw [if_pos c2] at H
     have c2b0 : decide (x9_1 < (l0.length : Int)) = true := zba c2
     clear c2; by_cases c3 : 0 ≤ x9_1
     · rw [if_pos c3] at H
       have c3b0 : decide (0 ≤ x9_1) = true := zba c3
       clear c3; by_cases c4 : x9_1 < (l0.length : Int)
       · rw [if_pos c4] at H
         have c4b0 : decide (x9_1 < (l0.length : Int)) = true := zba c4
         clear c4; by_cases c5 : x3_1.length < 17592186044416
         · rw [if_pos c5] at H
           have LMc5 := zad c5; clear c5; obtain ⟨y479, hy479⟩ : ∃ y_ : List Int, y_ = (x3_1 ++ [wrap64 ((rd l0 x9_1) - x4_1)]) := ⟨_, rfl⟩
           replace H : (spec_liFrom.l0 k1 y479 (rd l0 x9_1) l0 (l0.length : Int) (wrap64 (x9_1 + 1))) = some r := by first | (rw [hy479]; with_reducible exact H) | (have H2_ := (zbb _ _).symm.trans H; rw [hy479]; with_reducible exact H2_) | (have H2_ := (zbb _ _).symm.trans H; with_reducible exact H2_) | with_reducible exact H | (rw [hy479]; exact H) | exact H
           have Ny479 := zad hy479; clear hy479; have H' := zad H
           clear H; have p478 : 0 ≤ (x9_1 : Int) := zas (taab)
           have q478 : x9_1 < (l0.length : Int) := zas (taab)
           obtain ⟨ad478, e478, hx478_0⟩ := zbx HR0.out x9_1 p478 q478
           cases e478
           replace hx478_0 := (HB.out.cell (zaz w _ hx478_0)).trans hx478_0
           replace p478 := eq_true p478
           replace q478 := eq_true q478
           go_wp2_with (first | ((with_reducible refine gate_builtin (b := .append) (xs := #[.tmp 13, .tmp 17]) rfl ?_); at_builtin; refine Kd.R_append (Kd.int .i64) (w0 := w) w.heap.size rfl (.tmp 13) (.tmp 17) 22 3 (.int .i64 0) 8 rfl Try.underlying22 info3 rfl (by decide) (by omega) u3 x3_1 (wrap64 ((rd l0 x9_1) - x4_1)) [.int .i64 (wrap64 ((rd l0 x9_1) - x4_1))] (fun _ => True) (fun _ => False) rfl rfl ?aP (fun _ hk => hk.elim) ?aF ?aO ?aB ?aS ?aL ?_; (case aP => exact rfl); (case aB => exact (taaa)); (case aF => exact (fun _ _ => trivial)); (case aO => exact (taaq)); (case aS => exact (zbi (taaa))); (case aL => have := LMc5.out; omega); intro v480 w6 ho hb hg hat; rw [← Ny479.out] at ho; have n0_ := zad (hb); have n1_ := zad (ho); clear HB HO_3; have HB := n0_; have HO481 := n1_; clear n0_ n1_ ho hb hg hat))
           go_roundg k1
           case measure => have := HK1.out; omega
           case rel => exact ⟨(y479), (rd l0 x9_1), (wrap64 (x9_1 + 1)), (taad), (taad), H', ⟨taaw⟩, ⟨by (with_reducible repeat (first | apply zai | apply zaj | apply zak)); exact HO481.out⟩, ⟨taaa⟩⟩
         · rw [if_neg c5] at H
           exact absurd H (taah)
       · rw [if_neg c4] at H
         exact absurd H (taah)
     · rw [if_neg c3] at H
       exact absurd H (taah)
   · rw [if_neg c2] at H
     have c2b0 : decide (x9_1 < (l0.length : Int)) = false := zbh c2
     clear c2; obtain rfl := zbc H
     go_wp2
     go_ret
     exact ⟨_, taam, taaq, taaa⟩
def spec_liSums.l0 : Nat → List Int → Int → List Int → Int → Int → Option (List Int)
 | 0, _, _, _, _, _ => none
 | k + 1, x3, x4, x7, x8, x9 => if x9 < x8 then (if 0 ≤ x9 then (if x9 < (x7.length : Int) then (if x3.length < 17592186044416 then (spec_liSums.l0 k (x3 ++ [wrap64 (x4 + (rd x7 x9))]) (wrap64 (x4 + (rd x7 x9))) x7 x8 (wrap64 (x9 + 1))) else (none)) else (none)) else (none)) else (some x3)
def spec_liSums.f (k : Nat) (l0 : List Int) : Option (List Int) := spec_liSums.l0 k ([] : List Int) 0 l0 (l0.length : Int) 0
theorem spec_liSums.calls (k : Nat) (A0 : Option Addr) (c0 : Nat) (l0 : List Int) (r : List Int) (w : World) (hr0 : Kd.C (Kd.int .i64) w A0 l0.length l0) (hc0 : l0.length ≤ c0) (h : spec_liSums.f k l0 = some r) :
 Calls Try.prog 79 #[.slice A0 l0.length c0] w fun e w' => ∃ v0_ : Value, e = .returned (v0_) ∧ Kd.R (Kd.int .i64) 3 w' w.heap.size (fun _ => True) v0_ r ∧ Below w.heap.size w w' := by
 have HR0 := zad hr0; have HC0 := zad hc0; clear hr0 hc0; have HB := zad (Below.refl w.heap.size w)
 have H : (spec_liSums.l0 k ([] : List Int) 0 l0 (l0.length : Int) 0) = some r := h
 clear h; have H' := zad H
 clear H; go_enter Try.func79, Try.ntmps79
 go_wp2
 go_loopg [3, 4, 9] k (fun kq v3 v4 v9 w' => ∃ (x3_1 : List Int) (x4_1 : Int) (x9_1 : Int), v4 = .int .i64 x4_1 ∧ v9 = .int .i64 x9_1 ∧ Aside0 (spec_liSums.l0 kq x3_1 x4_1 l0 (l0.length : Int) x9_1 = some r) ∧ Aside0 (kq ≤ k) ∧ Aside0 (Kd.R (Kd.int .i64) 3 w' w.heap.size (fun _ => True) v3 x3_1) ∧ Aside0 (Below w.heap.size w w'))
 case atStart => exact ⟨(([] : List Int)), (0), (0), (taad), (taad), H', ⟨zcc _⟩, ⟨taaz⟩, ⟨taaa⟩⟩
 case round =>
  clear H'
  obtain ⟨x3_1, x4_1, x9_1, rfl, rfl, HA, HK1, HO_3, HB⟩ := hrel
  cases gk with
  | zero => exact absurd HA.out (by simp [spec_liSums.l0])
  | succ k1 =>
   have H := HA.out
   clear HA; simp only [spec_liSums.l0] at H
   by_cases c2 : x9_1 < (l0.length : Int)
   · rw [if_pos c2] at H
     have c2b0 : decide (x9_1 < (l0.length : Int)) = true := zba c2
     clear c2; by_cases c3 : 0 ≤ x9_1
     · rw [if_pos c3] at H
       have c3b0 : decide (0 ≤ x9_1) = true := zba c3
       clear c3; by_cases c4 : x9_1 < (l0.length : Int)
       · rw [if_pos c4] at H
         have c4b0 : decide (x9_1 < (l0.length : Int)) = true := zba c4
         clear c4; by_cases c5 : x3_1.length < 17592186044416
         · rw [if_pos c5] at H
           have LMc5 := zad c5; clear c5; obtain ⟨y174, hy174⟩ : ∃ y_ : List Int, y_ = (x3_1 ++ [wrap64 (x4_1 + (rd l0 x9_1))]) := ⟨_, rfl⟩
           replace H : (spec_liSums.l0 k1 y174 (wrap64 (x4_1 + (rd l0 x9_1))) l0 (l0.length : Int) (wrap64 (x9_1 + 1))) = some r := by first | (rw [hy174]; with_reducible exact H) | (have H2_ := (zbb _ _).symm.trans H; rw [hy174]; with_reducible exact H2_) | (have H2_ := (zbb _ _).symm.trans H; with_reducible exact H2_) | with_reducible exact H | (rw [hy174]; exact H) | exact H
           have Ny174 := zad hy174; clear hy174; have H' := zad H
           clear H; have p173 : 0 ≤ (x9_1 : Int) := zas (taab)
           have q173 : x9_1 < (l0.length : Int) := zas (taab)
           obtain ⟨ad173, e173, hx173_0⟩ := zbx HR0.out x9_1 p173 q173
           cases e173
           replace hx173_0 := (HB.out.cell (zaz w _ hx173_0)).trans hx173_0
           replace p173 := eq_true p173
           replace q173 := eq_true q173
           go_wp2_with (first | ((with_reducible refine gate_builtin (b := .append) (xs := #[.tmp 16, .tmp 18]) rfl ?_); at_builtin; refine Kd.R_append (Kd.int .i64) (w0 := w) w.heap.size rfl (.tmp 16) (.tmp 18) 22 3 (.int .i64 0) 8 rfl Try.underlying22 info3 rfl (by decide) (by omega) u3 x3_1 (wrap64 (x4_1 + (rd l0 x9_1))) [.int .i64 (wrap64 (x4_1 + (rd l0 x9_1)))] (fun _ => True) (fun _ => False) rfl rfl ?aP (fun _ hk => hk.elim) ?aF ?aO ?aB ?aS ?aL ?_; (case aP => exact rfl); (case aB => exact (taaa)); (case aF => exact (fun _ _ => trivial)); (case aO => exact (taaq)); (case aS => exact (zbi (taaa))); (case aL => have := LMc5.out; omega); intro v175 w6 ho hb hg hat; rw [← Ny174.out] at ho; have n0_ := zad (hb); have n1_ := zad (ho); clear HB HO_3; have HB := n0_; have HO176 := n1_; clear n0_ n1_ ho hb hg hat))
           go_roundg k1
           case measure => have := HK1.out; omega
           case rel => exact ⟨(y174), (wrap64 (x4_1 + (rd l0 x9_1))), (wrap64 (x9_1 + 1)), (taad), (taad), H', ⟨taaw⟩, ⟨by (with_reducible repeat (first | apply zai | apply zaj | apply zak)); exact HO176.out⟩, ⟨taaa⟩⟩
         · rw [if_neg c5] at H
           exact absurd H (taah)
       · rw [if_neg c4] at H
         exact absurd H (taah)
     · rw [if_neg c3] at H
       exact absurd H (taah)
   · rw [if_neg c2] at H
     have c2b0 : decide (x9_1 < (l0.length : Int)) = false := zbh c2
     clear c2; obtain rfl := zbc H
     go_wp2
     go_ret
     exact ⟨_, taam, taaq, taaa⟩
def spec_liMeet.l0 : Nat → List Int → List Int → List Int → Int → Int → Option (List Int)
 | 0, _, _, _, _, _ => none
 | k + 1, x5, x6, x7, x14, x15 => if x15 < x14 then (if 0 ≤ x15 then (if x15 < (x5.length : Int) then (if x15 < (x6.length : Int) then ((spec_l1Least.f (rd x5 x15) (rd x6 x15)).bind fun t490 => (if x7.length < 17592186044416 then (spec_liMeet.l0 k x5 x6 (x7 ++ [t490]) x14 (wrap64 (x15 + 1))) else (none))) else (none)) else (none)) else (none)) else ((spec_liFrom.f k x7).bind fun t494 => (some t494))
def spec_liMeet.f (k : Nat) (l0 : List Int) (l1 : List Int) : Option (List Int) := (spec_liSums.f k l0).bind fun t482 => ((spec_liSums.f k l1).bind fun t485 => (spec_liMeet.l0 k t482 t485 ([] : List Int) (t482.length : Int) 0))
def spec_liMeet.T6 : Bool × List (List Nat × List Nat) := (true, [([], []), ([], []), ([], []), ([1, 2], [1, 2]), ([3], [3]), ([], []), ([], []), ([5, 6], [5, 6]), ([7], [7]), ([4, 8], [4, 8]), ([9], [9]), ([0, 10, 9], [0, 10]), ([11, 11, 0, 1, 2, 3, 4, 5, 6, 7, 8, 9, 10, 11], [0, 11])])
def spec_liMeet.B6 : List Nat := [0, 0, 0, 6, 14, 0, 0, 96, 224, 510, 1022, 2047, 4095]
theorem spec_liMeet.tab6 : rtab .any (opsOf Try.f55 6) = spec_liMeet.T6 := by kernel_rfl
theorem spec_liMeet.bits6 : waitsOk spec_liMeet.T6.2 spec_liMeet.B6 = true := by kernel_rfl
theorem spec_liMeet.calls (k : Nat) (A0 : Option Addr) (c0 : Nat) (l0 : List Int) (A1 : Option Addr) (c1 : Nat) (l1 : List Int) (r : List Int) (w : World) (hr0 : Kd.C (Kd.int .i64) w A0 l0.length l0) (hc0 : l0.length ≤ c0) (hr1 : Kd.C (Kd.int .i64) w A1 l1.length l1) (hc1 : l1.length ≤ c1) (h : spec_liMeet.f k l0 l1 = some r) :
 Calls Try.prog 55 #[.slice A0 l0.length c0, .slice A1 l1.length c1] w fun e w' => ∃ v0_ : Value, e = .returned (v0_) ∧ Kd.R (Kd.int .i64) 3 w' w.heap.size (fun _ => True) v0_ r ∧ Below w.heap.size w w' := by
 have HR0 := zad hr0; have HC0 := zad hc0; clear hr0 hc0; have HR1 := zad hr1; have HC1 := zad hc1; clear hr1 hc1; have HB := zad (Below.refl w.heap.size w)
 have H : ((spec_liSums.f k l0).bind fun t482 => ((spec_liSums.f k l1).bind fun t485 => (spec_liMeet.l0 k t482 t485 ([] : List Int) (t482.length : Int) 0))) = some r := h
 clear h; replace H := zay.mp H; obtain ⟨t482, A30, H⟩ := H
 replace H : ((spec_liSums.f k l1).bind fun t485 => (spec_liMeet.l0 k t482 t485 ([] : List Int) (t482.length : Int) 0)) = some r := H
 have A3 := zad A30; clear A30; replace H := zay.mp H; obtain ⟨t485, A40, H⟩ := H
 replace H : (spec_liMeet.l0 k t482 t485 ([] : List Int) (t482.length : Int) 0) = some r := H
 have A4 := zad A40; clear A40; have H' := zad H
 clear H; go_enter Try.func55, Try.ntmps55
 go_wp2_with (first | ((with_reducible refine zbf (f := 79) rfl ?_); refine zbl (some 10) rfl rfl Try.func79 (by kernel_rfl) rfl #[.slice A0 l0.length c0] rfl (taac) ?_; (with_reducible refine (spec_liSums.calls k _ _ l0 t482 _ ?side1 ?side2 A3.out).mono ?_); (case side1 => repeat (first | exact HR0.out | (with_reducible refine zal ?_ _) | (with_reducible refine zam ?_ _) | (with_reducible refine zan ?_))); (case side2 => exact HC0.out); rintro e w5 ⟨v483, rfl, ho0, hb⟩; refine ⟨_, rfl, ?_⟩; have n0_ := zad (zbs ho0 (zbi (taaa))); have n1_ := zad (zbe (taaa) hb); clear HB; have HO484 := n0_; have HB := n1_; clear n0_ n1_; (try clear hb); (try clear hb2); (try clear hk); (try clear hi); (try clear ho0)) | ((with_reducible refine zbf (f := 79) rfl ?_); refine zbl (some 12) rfl rfl Try.func79 (by kernel_rfl) rfl #[.slice A1 l1.length c1] rfl (taac) ?_; (with_reducible refine (spec_liSums.calls k _ _ l1 t485 _ ?side1 ?side2 A4.out).mono ?_); (case side1 => repeat (first | exact (Kd.C_below HR1.out HB.out) | (with_reducible refine zal ?_ _) | (with_reducible refine zam ?_ _) | (with_reducible refine zan ?_))); (case side2 => exact HC1.out); rintro e w6 ⟨v486, rfl, ho0, hb⟩; refine ⟨_, rfl, ?_⟩; have n0_ := zad (zby (tadg) (zca ho0) hb); have n1_ := zad (zbs (zbz ho0 (zcb (tadg))) (zbi (taaa))); have n2_ := zad (zbe (taaa) hb); clear HO484 HB; have HO484 := n0_; have HO487 := n1_; have HB := n2_; clear n0_ n1_ n2_; (try clear hb); (try clear hb2); (try clear hk); (try clear hi); (try clear ho0); obtain ⟨Ao7, co7, eo7⟩ := zbt HO484.out; subst eo7))
 go_loopg [7, 15] k (fun kq v7 v15 w' => ∃ (x7_1 : List Int) (x15_1 : Int), v15 = .int .i64 x15_1 ∧ Aside0 (spec_liMeet.l0 kq t482 t485 x7_1 (t482.length : Int) x15_1 = some r) ∧ Aside0 (kq ≤ k) ∧ Aside0 (Kd.R (Kd.int .i64) 3 w' w.heap.size (fun k_ => some k_ ≠ (v486 : Value).ownBlock ∧ some k_ ≠ (v7 : Value).ownBlock) (.slice Ao7 t482.length co7) t482) ∧ Aside0 (Kd.R (Kd.int .i64) 3 w' w.heap.size (fun k_ => some k_ ≠ ((.slice Ao7 t482.length co7) : Value).ownBlock ∧ some k_ ≠ (v7 : Value).ownBlock) v486 t485) ∧ Aside0 (Kd.R (Kd.int .i64) 3 w' w.heap.size (fun k_ => some k_ ≠ ((.slice Ao7 t482.length co7) : Value).ownBlock ∧ some k_ ≠ (v486 : Value).ownBlock) v7 x7_1) ∧ Aside0 (Below w.heap.size w w'))
 case atStart => exact ⟨(([] : List Int)), (0), (taad), H', ⟨zcc _⟩, ⟨by (with_reducible repeat (first | apply zai | apply zaj | apply zak)); exact zbo HO484.out (fun _ hk => ⟨hk.2, (tach)⟩)⟩, ⟨by (with_reducible repeat (first | apply zai | apply zaj | apply zak)); exact zbo HO487.out (fun _ hk => ⟨hk.2, (tach)⟩)⟩, ⟨taaz⟩, ⟨taaa⟩⟩
 case round =>
  clear H'
  try clear c1
  try clear p2
  try clear c5
  try clear c7
  obtain ⟨x7_1, x15_1, rfl, HA, HK1, HO_5, HO_6, HO_7, HB⟩ := hrel
  cases gk with
  | zero => exact absurd HA.out (by simp [spec_liMeet.l0])
  | succ k1 =>
   have H := HA.out
   clear HA; simp only [spec_liMeet.l0] at H
   by_cases c8 : x15_1 < (t482.length : Int)
   · rw [if_pos c8] at H
     have c8b0 : decide (x15_1 < (t482.length : Int)) = true := zba c8
     clear c8; by_cases c9 : 0 ≤ x15_1
     · rw [if_pos c9] at H
       have c9b0 : decide (0 ≤ x15_1) = true := zba c9
       clear c9; by_cases c10 : x15_1 < (t482.length : Int)
       · rw [if_pos c10] at H
         have c10b0 : decide (x15_1 < (t482.length : Int)) = true := zba c10
         clear c10; by_cases c11 : x15_1 < (t485.length : Int)
         · rw [if_pos c11] at H
           have c11b0 : decide (x15_1 < (t485.length : Int)) = true := zba c11
           clear c11; replace H := zay.mp H; obtain ⟨t490, A120, H⟩ := H
           replace H : (if x7_1.length < 17592186044416 then (spec_liMeet.l0 k1 t482 t485 (x7_1 ++ [t490]) (t482.length : Int) (wrap64 (x15_1 + 1))) else (none)) = some r := H
           have A12 := zad A120; clear A120; by_cases c13 : x7_1.length < 17592186044416
           · rw [if_pos c13] at H
             have LMc13 := zad c13; clear c13; obtain ⟨y491, hy491⟩ : ∃ y_ : List Int, y_ = (x7_1 ++ [t490]) := ⟨_, rfl⟩
             replace H : (spec_liMeet.l0 k1 t482 t485 y491 (t482.length : Int) (wrap64 (x15_1 + 1))) = some r := by first | (rw [hy491]; with_reducible exact H) | (have H2_ := (zbb _ _).symm.trans H; rw [hy491]; with_reducible exact H2_) | (have H2_ := (zbb _ _).symm.trans H; with_reducible exact H2_) | with_reducible exact H | (rw [hy491]; exact H) | exact H
             have Ny491 := zad hy491; clear hy491; have H' := zad H
             clear H; try go_wp2
             have n0_ := zad (zak HO_5.out)
             have n1_ := zad (zak HO_6.out)
             have n2_ := zad (zak HO_7.out)
             have n3_ := zad (zaf HB.out)
             clear HO_5 HO_6 HO_7 HB; have HO_5 := n0_; have HO_6 := n1_; have HO_7 := n2_; have HB := n3_; clear n0_ n1_ n2_ n3_; have p488 : 0 ≤ (x15_1 : Int) := zas (taab)
             have q488 : x15_1 < (t482.length : Int) := zas (taab)
             obtain ⟨ad488, e488, hx488_0⟩ := zbx (zbd HO_5.out).2.2 x15_1 p488 q488
             cases e488
             replace p488 := eq_true p488
             replace q488 := eq_true q488
             obtain ⟨Ao15, co15, eo15⟩ := zbt HO_6.out
             (first | subst eo15 | (injection eo15 with f1_ f2_ f3_; have f4_ := f1_.symm; have f5_ := f3_.symm; clear f1_ f2_ f3_; subst f4_; subst f5_))
             have p489 : 0 ≤ (x15_1 : Int) := zas (taab)
             have q489 : x15_1 < (t485.length : Int) := zas (taab)
             obtain ⟨ad489, e489, hx489_0⟩ := zbx (zbd HO_6.out).2.2 x15_1 p489 q489
             cases e489
             replace p489 := eq_true p489
             replace q489 := eq_true q489
             refine start_ (n := 13) (S := fun w' => w'.cell? (ad488.add (x15_1).toNat) = some (.int .i64 (rd t482 x15_1)) ∧ w'.cell? (ad489.add (x15_1).toNat) = some (.int .i64 (rd t485 x15_1))) (ds := [10, 11]) #[false, false, false, false, false, false, false, false, false, false, false, false, false] (by kernel_rfl) rfl rfl ⟨hx488_0, hx489_0⟩ (fun hHeld => ?_); refine with_tabW spec_liMeet.tab6 spec_liMeet.bits6 (fun HT_ HW_ => ?_)
             generalize wr.drew = w14 at HO_5 HO_6 HO_7 HB hx488_0 hx489_0 hHeld ⊢
             refine pure_ (i := 0) (N := some 18) (v := ?_) (a' := ?_) #[true, false, false, false, false, false, false, false, false, false, false, false, false] rfl rfl (zbw HT_.out (by kernel_rfl)) (fun _ _ _ h => h) (Or.inl ⟨by rfl, ?_⟩) ?_ ?_
             rotate_left
             · intro w'
               go_simp; with_reducible rfl
             rotate_left
             · simp only [Act.put, zaa, zab, zac, zbu, zbv]
               rfl
             refine pure_ (i := 1) (N := some 19) (v := ?_) (a' := ?_) #[true, true, false, false, false, false, false, false, false, false, false, false, false] rfl rfl (zbw HT_.out (by kernel_rfl)) (fun _ _ _ h => h) (Or.inl ⟨by rfl, ?_⟩) ?_ ?_
             rotate_left
             · intro w'
               go_simp; with_reducible rfl
             rotate_left
             · simp only [Act.put, zaa, zab, zac, zbu, zbv]
               rfl
             refine pure_ (i := 2) (N := some 20) (v := ?_) (a' := ?_) #[true, true, true, false, false, false, false, false, false, false, false, false, false] rfl rfl (zbw HT_.out (by kernel_rfl)) (fun _ _ _ h => h) (Or.inl ⟨by rfl, ?_⟩) ?_ ?_
             rotate_left
             · intro w'
               go_simp; with_reducible rfl
             rotate_left
             · simp only [Act.put, zaa, zab, zac, zbu, zbv]
               rfl
             refine pure_ (i := 3) (N := some 21) (v := ?_) (a' := ?_) #[true, true, true, true, false, false, false, false, false, false, false, false, false] rfl rfl (zbw HT_.out (by kernel_rfl)) (fun _ _ _ h => h) (Or.inl ⟨by rfl, ?_⟩) ?_ ?_
             rotate_left
             · intro w'
               go_simp; with_reducible rfl
             rotate_left
             · simp only [Act.put, zaa, zab, zac, zbu, zbv]
               rfl
             refine pure_ (i := 5) (N := some 23) (v := ?_) (a' := ?_) #[true, true, true, true, false, true, false, false, false, false, false, false, false] rfl rfl (zbw HT_.out (by kernel_rfl)) (fun _ _ _ h => h) (Or.inl ⟨by rfl, ?_⟩) ?_ ?_
             rotate_left
             · intro w'
               go_simp; with_reducible rfl
             rotate_left
             · simp only [Act.put, zaa, zab, zac, zbu, zbv]
               rfl
             refine pure_ (i := 6) (N := some 24) (v := ?_) (a' := ?_) #[true, true, true, true, false, true, true, false, false, false, false, false, false] rfl rfl (zbw HT_.out (by kernel_rfl)) (fun _ _ _ h => h) (Or.inl ⟨by rfl, ?_⟩) ?_ ?_
             rotate_left
             · intro w'
               go_simp; with_reducible rfl
             rotate_left
             · simp only [Act.put, zaa, zab, zac, zbu, zbv]
               rfl
             refine pure_ (i := 7) (N := some 25) (v := ?_) (a' := ?_) #[true, true, true, true, false, true, true, true, false, false, false, false, false] rfl rfl (zbw HT_.out (by kernel_rfl)) (fun _ _ _ h => h) (Or.inl ⟨by rfl, ?_⟩) ?_ ?_
             rotate_left
             · intro w'
               go_simp; with_reducible rfl
             rotate_left
             · simp only [Act.put, zaa, zab, zac, zbu, zbv]
               rfl
             refine take_ (i := 4) (N := some 22) (v := ?_) (a' := ?_) #[true, true, true, true, true, true, true, true, false, false, false, false, false] rfl rfl (take_ofW HT_.out HW_.out (by kernel_rfl)) (fun _ _ _ h => h) (Or.inl ⟨by rfl, ?_⟩) hHeld ?_ ?_
             rotate_left
             · rintro w' ⟨s0, s1⟩
               go_simp; with_reducible rfl
             rotate_left
             · simp only [Act.put, zaa, zab, zac, zbu, zbv]
               rfl
             refine take_ (i := 8) (N := some 26) (v := ?_) (a' := ?_) #[true, true, true, true, true, true, true, true, true, false, false, false, false] rfl rfl (take_ofW HT_.out HW_.out (by kernel_rfl)) (fun _ _ _ h => h) (Or.inl ⟨by rfl, ?_⟩) hHeld ?_ ?_
             rotate_left
             · rintro w' ⟨s0, s1⟩
               go_simp; with_reducible rfl
             rotate_left
             · simp only [Act.put, zaa, zab, zac, zbu, zbv]
               rfl
             refine one_ (i := 9) (N := some 27) #[true, true, true, true, true, true, true, true, true, true, false, false, false] rfl rfl (one_of HT_.out (by kernel_rfl)) (by decide) (fun K hK => ?_)
             refine goes_ Try.func48 (by kernel_rfl) rfl #[.int .i64 (rd t482 x15_1), .int .i64 (rd t485 x15_1)] (by rfl) rfl rfl (taac) ?_
             with_reducible refine (spec_l1Least.calls (rd t482 x15_1) (rd t485 x15_1) t490 _ A12.out).mono ?_
             rintro e w' ⟨rfl, ⟨nd, rfl⟩⟩
             refine ⟨_, rfl, ?_⟩
             refine hK.out _ _ ⟨hHeld.1, hHeld.2⟩ (fun hHeld => ?_)
             clear hK K; refine norm_ (a' := ?_) ?_ ?_
             rotate_left
             · show Act.put _ (some 27) _ = _
               simp only [Act.put, zaa, zab, zac, zbu, zbv]
               rfl
             refine last_ (i := 10) (N := some 28) #[true, true, true, true, true, true, true, true, true, true, true, false, false] rfl rfl (one_of HT_.out (by kernel_rfl)) (by decide) (fun K hK => ?_)
             refine value_ (w1 := ?_) (v := ?_) (by rfl) rfl ?_ ?_
             rotate_left 2
             · go_simp
               constructor
               · rfl
               · rfl
             refine hK.out _ _ ?_
             clear hK K; refine norm_ (a' := ?_) ?_ ?_
             rotate_left
             · show Act.put _ (some 28) _ = _
               simp only [Act.put, zaa, zab, zac, zbu, zbv]
               rfl
             refine last_ (i := 11) (N := some 29) #[true, true, true, true, true, true, true, true, true, true, true, true, false] rfl rfl (one_of HT_.out (by kernel_rfl)) (by decide) (fun K hK => ?_)
             refine Kd.R_append_step (Kd.int .i64) (w0 := w) w.heap.size (by rfl) (.tmp 18) (.tmp 28) 22 3 (.int .i64 0) 8 rfl Try.underlying22 info3 rfl (by decide) (by omega) u7 x7_1 t490 [.int .i64 t490] (fun k_ => some k_ ≠ (.slice (some ad488) t482.length co7 : Value).ownBlock ∧ some k_ ≠ (.slice (some ad489) t485.length co15 : Value).ownBlock) (fun _ => False) rfl rfl ?aP (fun _ hk => hk.elim) ?aF ?aO ?aB ?aS ?aL ?_
             (case aP => exact rfl)
             (case aB => exact (taaa))
             (case aF => exact (fun k_ hk => ⟨Kd.fresh' (zcb (taaf)) k_ hk, Kd.fresh' (zcb (taae)) k_ hk⟩))
             (case aO => exact (taag))
             (case aS => exact (zbi (taaa)))
             (case aL => have := LMc13.out; omega)
             intro v492 w16 ho hb hg hat
             rw [← Ny491.out] at ho
             have n0_ := zad (Kd.R_after (ok := (fun k_ => some k_ ≠ (.slice (some ad489) t485.length co15 : Value).ownBlock)) (taaf) hg hat)
             have n1_ := zad (Kd.R_after (ok := (fun k_ => some k_ ≠ (.slice (some ad488) t482.length co7 : Value).ownBlock)) (taae) hg hat)
             have n2_ := zad (hb)
             have n3_ := zad (ho)
             clear HO_5 HO_6 HB HO_7; have HO_5 := n0_; have HO_6 := n1_; have HB := n2_; have HO493 := n3_; clear n0_ n1_ n2_ n3_ ho hb hg hat; refine hK.out _ _ ?_
             clear hK K; refine norm_ (a' := ?_) ?_ ?_
             rotate_left
             · show Act.put _ (some 29) _ = _
               simp only [Act.put, zaa, zab, zac, zbu, zbv]
               rfl
             refine pure_ (i := 12) (N := some 7) (v := ?_) (a' := ?_) #[true, true, true, true, true, true, true, true, true, true, true, true, true] rfl rfl (zbw HT_.out (by kernel_rfl)) (fun _ _ _ h => h) (Or.inl ⟨by rfl, ?_⟩) ?_ ?_
             rotate_left
             · intro w'
               go_simp; with_reducible rfl
             rotate_left
             · simp only [Act.put, zaa, zab, zac, zbu, zbv]
               rfl
             refine done_ (done_of HT_.out (by kernel_rfl)) ?_
             try go_wp2
             go_roundg k1
             case measure => have := HK1.out; omega
             case rel => exact ⟨(y491), (wrap64 (x15_1 + 1)), (taad), H', ⟨taaw⟩, ⟨taaf⟩, ⟨taae⟩, ⟨by (with_reducible repeat (first | apply zai | apply zaj | apply zak)); exact HO493.out⟩, ⟨taaa⟩⟩
           · rw [if_neg c13] at H
             exact absurd H (taah)
         · rw [if_neg c11] at H
           exact absurd H (taah)
       · rw [if_neg c10] at H
         exact absurd H (taah)
     · rw [if_neg c9] at H
       exact absurd H (taah)
   · rw [if_neg c8] at H
     have c8b0 : decide (x15_1 < (t482.length : Int)) = false := zbh c8
     clear c8; replace H := zay.mp H; obtain ⟨t494, A170, H⟩ := H
     replace H : (some t494) = some r := H
     have A17 := zad A170; clear A170; obtain rfl := zbc H
     obtain ⟨Ao18, co18, eo18⟩ := zbt HO_7.out
     subst eo18; go_wp2_with (first | ((with_reducible refine zbf (f := 58) rfl ?_); refine zbl (some 32) rfl rfl Try.func58 (by kernel_rfl) rfl #[.slice Ao18 x7_1.length co18] rfl (taac) ?_; (with_reducible refine (spec_liFrom.calls k1 _ _ x7_1 t494 _ ?side1 ?side2 A17.out).mono ?_); (case side1 => exact taeq); (case side2 => exact (zbd HO_7.out).2.1); rintro e w19 ⟨v495, rfl, ho0, hb⟩; refine ⟨_, rfl, ?_⟩; have n0_ := zad (zby (taaf) (zca ho0) hb); have n1_ := zad (zby (taae) (zca ho0) hb); have n2_ := zad (zby (taag) (zca ho0) hb); have n3_ := zad (zbs (zbz (zbz (zbz ho0 (zcb (taaf))) (zcb (taae))) (zcb (taag))) (zbi (taaa))); have n4_ := zad (zbe (taaa) hb); clear HO_5 HO_6 HO_7 HB; have HO_5 := n0_; have HO_6 := n1_; have HO_7 := n2_; have HO496 := n3_; have HB := n4_; clear n0_ n1_ n2_ n3_ n4_; (try clear hb); (try clear hb2); (try clear hk); (try clear hi); (try clear ho0)))
     go_ret
     exact ⟨_, taam, by (with_reducible repeat (first | apply zai | apply zaj | apply zak)); exact zbo HO496.out (fun _ hk => trivial), taaa⟩
mutual
def spec_liConjugate.l0 : Nat → Int → List Int → List Int → Int → Int → Option (List Int)
 | 0, _, _, _, _, _ => none
 | k + 1, x1, x5, x11, x12, x13 => if x13 < x12 then (if 0 ≤ x13 then (if x13 < (x11.length : Int) then (spec_liConjugate.l1 k x1 x5 (rd x11 x13) 0 x11 x12 x13) else (none)) else (none)) else (some x5)
def spec_liConjugate.l1 : Nat → Int → List Int → Int → Int → List Int → Int → Int → Option (List Int)
 | 0, _, _, _, _, _, _, _ => none
 | k + 1, x1, x5, x7, x8, x11, x12, x13 => if x8 < x7 then (if x8 < x1 then (if 0 ≤ x8 then (if x8 < (x5.length : Int) then (spec_liConjugate.l1 k x1 (x5.set (x8 : Int).toNat (wrap64 ((rd x5 x8) + 1))) x7 (wrap64 (x8 + 1)) x11 x12 x13) else (none)) else (none)) else (spec_liConjugate.l0 k x1 x5 x11 x12 (wrap64 (x13 + 1)))) else (spec_liConjugate.l0 k x1 x5 x11 x12 (wrap64 (x13 + 1)))
end
def spec_liConjugate.f (k : Nat) (l0 : List Int) (a1 : Int) : Option (List Int) := if 0 ≤ a1 then (if (a1 : Int).toNat ≤ 35184372088832 then (spec_liConjugate.l0 k a1 (List.replicate (a1 : Int).toNat 0) l0 (l0.length : Int) 0) else (none)) else (none)
theorem spec_liConjugate.calls (k : Nat) (A0 : Option Addr) (c0 : Nat) (l0 : List Int) (a1 : Int) (r : List Int) (w : World) (hr0 : Kd.C (Kd.int .i64) w A0 l0.length l0) (hc0 : l0.length ≤ c0) (h : spec_liConjugate.f k l0 a1 = some r) :
 Calls Try.prog 56 #[.slice A0 l0.length c0, .int .i64 a1] w fun e w' => ∃ v0_ : Value, e = .returned (v0_) ∧ Kd.R (Kd.int .i64) 3 w' w.heap.size (fun _ => True) v0_ r ∧ Below w.heap.size w w' := by
 have HR0 := zad hr0; have HC0 := zad hc0; clear hr0 hc0; have HB := zad (Below.refl w.heap.size w)
 have H : (if 0 ≤ a1 then (if (a1 : Int).toNat ≤ 35184372088832 then (spec_liConjugate.l0 k a1 (List.replicate (a1 : Int).toNat 0) l0 (l0.length : Int) 0) else (none)) else (none)) = some r := h
 clear h; by_cases c3 : 0 ≤ a1
 · rw [if_pos c3] at H
   have c3b0 := eq_true c3; have c3b1 : decide (0 ≤ a1) = true := zba c3
   clear c3; by_cases c4 : (a1 : Int).toNat ≤ 35184372088832
   · rw [if_pos c4] at H
     have c4b0 := eq_true c4; have c4b1 : decide ((a1 : Int).toNat ≤ 35184372088832) = true := zba c4
     clear c4; obtain ⟨y497, hy497⟩ : ∃ y_ : List Int, y_ = (List.replicate (a1 : Int).toNat 0) := ⟨_, rfl⟩
     replace H : (spec_liConjugate.l0 k a1 y497 l0 (l0.length : Int) 0) = some r := by first | (rw [hy497]; with_reducible exact H) | (have H2_ := (zbb _ _).symm.trans H; rw [hy497]; with_reducible exact H2_) | (have H2_ := (zbb _ _).symm.trans H; with_reducible exact H2_) | with_reducible exact H | (rw [hy497]; exact H) | exact H
     have Ny497 := zad hy497; clear hy497; have H' := zad H
     clear H; go_enter Try.func56, Try.ntmps56
     go_wp2_with (first | ((with_reducible refine gate_dst (N := 10) rfl ?_); refine Kd.R_make (Kd.int .i64) _ 3 rfl (N := 10) rfl 22 _ _ rfl a1 rfl rfl Try.underlying22 (.int .i64 0) 8 info3 rfl (by decide) (by omega) 0 (ok := fun _ => True) (okp := fun _ => True) rfl (fun _ hk => hk) trivial (zas (taab)) (Nat.le_trans (Nat.mul_le_mul_right _ (zas (taab) : a1.toNat ≤ 35184372088832)) (by omega)) (Below.refl _ _) (zcc _) ?_; intro v498 w5 ho6 hb hg_ hnew_; clear hg_ hnew_; (first | rw [← Ny497.out] at ho6 | (simp only [Int.reduceToNat] at ho6; rw [← Ny497.out] at ho6)); have n0_ := zad (zbs ho6 (zbi (taaa))); have n1_ := zad (zbe (taaa) hb); clear HB; have HO499 := n0_; have HB := n1_; clear n0_ n1_ hb ho6))
     go_loopg [13] k (fun kq v13 w' => ∃ (x5_1 : List Int) (x13_1 : Int), v13 = .int .i64 x13_1 ∧ Aside0 (spec_liConjugate.l0 kq a1 x5_1 l0 (l0.length : Int) x13_1 = some r) ∧ Aside0 (kq ≤ k) ∧ Aside0 (Kd.R (Kd.int .i64) 3 w' w.heap.size (fun _ => True) v498 x5_1) ∧ Aside0 (Below w.heap.size w w'))
     case atStart => exact ⟨(y497), (0), (taad), H', ⟨zcc _⟩, ⟨by (with_reducible repeat (first | apply zai | apply zaj | apply zak)); exact HO499.out⟩, ⟨taaa⟩⟩
     case round =>
      clear H'
      try clear p2
      try clear c3
      try clear c3b0
      try clear c3b1
      try clear c4
      try clear c4b0
      try clear c4b1
      try clear c5
      obtain ⟨x5_1, x13_1, rfl, HA, HK1, HO_5, HB⟩ := hrel
      cases gk with
      | zero => exact absurd HA.out (by simp [spec_liConjugate.l0])
      | succ k1 =>
       have H := HA.out
       clear HA; simp only [spec_liConjugate.l0] at H
       by_cases c7 : x13_1 < (l0.length : Int)
       · rw [if_pos c7] at H
         have c7b0 : decide (x13_1 < (l0.length : Int)) = true := zba c7
         clear c7; by_cases c8 : 0 ≤ x13_1
         · rw [if_pos c8] at H
           have c8b0 : decide (0 ≤ x13_1) = true := zba c8
           clear c8; by_cases c9 : x13_1 < (l0.length : Int)
           · rw [if_pos c9] at H
             have c9b0 : decide (x13_1 < (l0.length : Int)) = true := zba c9
             clear c9; have H' := zad H
             clear H; have p500 : 0 ≤ (x13_1 : Int) := zas (taab)
             have q500 : x13_1 < (l0.length : Int) := zas (taab)
             obtain ⟨ad500, e500, hx500_0⟩ := zbx HR0.out x13_1 p500 q500
             cases e500
             replace hx500_0 := (HB.out.cell (zaz w _ hx500_0)).trans hx500_0
             replace p500 := eq_true p500
             replace q500 := eq_true q500
             go_wp2
             go_loopg [8] k1 (fun kq v8 w' => ∃ (x5_2 : List Int) (x8_2 : Int), v8 = .int .i64 x8_2 ∧ Aside0 (spec_liConjugate.l1 kq a1 x5_2 (rd l0 x13_1) x8_2 l0 (l0.length : Int) x13_1 = some r) ∧ Aside0 (kq ≤ k1) ∧ Aside0 (Kd.R (Kd.int .i64) 3 w' w.heap.size (fun _ => True) v498 x5_2) ∧ Aside0 (Below w.heap.size w w'))
             case atStart => exact ⟨(x5_1), (0), (taad), H', ⟨zcc _⟩, ⟨taaf⟩, ⟨taaa⟩⟩
             case round =>
              clear H'
              try clear p2
              try clear c3
              try clear c3b0
              try clear c3b1
              try clear c4
              try clear c4b0
              try clear c4b1
              try clear c5
              try clear p5
              try clear q5
              try clear hx5
              try clear c7
              try clear c7b0
              try clear c8
              try clear c8b0
              try clear c9
              try clear c9b0
              try clear hx500_0
              try clear p2
              try clear p500
              try clear q500
              obtain ⟨x5_2, x8_2, rfl, HA, HK2, HO_5, HB⟩ := hrel
              cases gk with
              | zero => exact absurd HA.out (by simp [spec_liConjugate.l1])
              | succ k2 =>
               have H := HA.out
               clear HA; simp only [spec_liConjugate.l1] at H
               by_cases c10 : x8_2 < (rd l0 x13_1)
               · rw [if_pos c10] at H
                 have c10b0 : decide (x8_2 < (rd l0 x13_1)) = true := zba c10
                 clear c10; by_cases c11 : x8_2 < a1
                 · rw [if_pos c11] at H
                   have c11b0 : decide (x8_2 < a1) = true := zba c11
                   clear c11; by_cases c12 : 0 ≤ x8_2
                   · rw [if_pos c12] at H
                     have c12b0 : decide (0 ≤ x8_2) = true := zba c12
                     clear c12; by_cases c13 : x8_2 < (x5_2.length : Int)
                     · rw [if_pos c13] at H
                       have c13b0 : decide (x8_2 < (x5_2.length : Int)) = true := zba c13
                       clear c13; obtain ⟨y502, hy502⟩ : ∃ y_ : List Int, y_ = (x5_2.set (x8_2 : Int).toNat (wrap64 ((rd x5_2 x8_2) + 1))) := ⟨_, rfl⟩
                       replace H : (spec_liConjugate.l1 k2 a1 y502 (rd l0 x13_1) (wrap64 (x8_2 + 1)) l0 (l0.length : Int) x13_1) = some r := by first | (rw [hy502]; with_reducible exact H) | (have H2_ := (zbb _ _).symm.trans H; rw [hy502]; with_reducible exact H2_) | (have H2_ := (zbb _ _).symm.trans H; with_reducible exact H2_) | with_reducible exact H | (rw [hy502]; exact H) | exact H
                       have Ny502 := zad hy502; clear hy502; have H' := zad H
                       clear H; obtain ⟨Ao15, co15, eo15⟩ := zbt HO_5.out
                       subst eo15; have p501 : 0 ≤ (x8_2 : Int) := zas (taab)
                       have q501 : x8_2 < (x5_2.length : Int) := zas (taab)
                       obtain ⟨ad501, e501, hx501_0⟩ := zbx (zbd HO_5.out).2.2 x8_2 p501 q501
                       cases e501
                       replace p501 := eq_true p501
                       replace q501 := eq_true q501
                       have p14 : 0 ≤ (x8_2 : Int) := zas (taab)
                       have q14 : (x8_2 : Int) < ((x5_2.length : Int) : Int) := zas (taab)
                       obtain ⟨go14, co14, eo14, gb14, gl14, cl14, HG14⟩ := Kd.R_form HO_5.out (by omega)
                       (first | cases eo14 | (injection eo14 with ea_ en_ ec_; (first | subst ea_ | (injection ea_ with ea_; subst ea_)); subst ec_; clear en_))
                       have GB14 := zad gb14; have GG14 := zad HG14; clear gb14 gl14 HG14; (first | simp only [add_plain] at hx501_0 | skip)
                       obtain ⟨hx14_0, hf14_0⟩ := Kd.R_celln 0 HO_5.out (x8_2 : Int) p14 q14
                       replace p14 := eq_true p14
                       replace q14 := eq_true q14
                       have HP16 := Kd.R_putg HO_5.out (x8_2 : Int) (wrap64 ((rd x5_2 x8_2) + 1))
                       go_wp2_with (first | ((with_reducible refine gate_store (t := 3) (p := 32) rfl ?_); refine store_event (t := 3) (p := 32) (v := ?vo_w17) (w1 := (wr.setCell ⟨go14, (x8_2 : Int).toNat, none⟩ (.int .i64 (wrap64 ((rd x5_2 x8_2) + 1))))) ?hg ?ho ?hn ?hr ?_; (case ho => rfl); (case hg => rfl); (case hn => rfl); (case hr => first | (go_simp; done) | (go_simp; rfl)); intro w17 hw; have hg : wr.grownBy w17 (some go14) := (by rw [hw]; exact HP16.2); have hp_ : Kd.R (Kd.int .i64) 3 w17 w.heap.size (fun _ => True) (.slice (some ⟨go14, 0, none⟩) x5_2.length co15) y502 := (by rw [hw, Ny502.out]; exact HP16.1); clear HP16; have n0_ := zad (hp_); have n1_ := zad ((by rw [hw]; exact zah (HB.out) GB14.out : Below w.heap.size w w17)); clear HO_5 HB; have HO_5 := n0_; have HB := n1_; clear n0_ n1_ hg hw hp_))
                       go_roundg k2
                       case measure => have := HK1.out; have := HK2.out; omega
                       case rel => exact ⟨(y502), (wrap64 (x8_2 + 1)), (taad), H', ⟨tabj⟩, ⟨taaf⟩, ⟨taaa⟩⟩
                     · rw [if_neg c13] at H
                       exact absurd H (taah)
                   · rw [if_neg c12] at H
                     exact absurd H (taah)
                 · rw [if_neg c11] at H
                   have c11b0 : decide (x8_2 < a1) = false := zbh c11
                   clear c11; have H' := zad H
                   clear H; go_wp2
                   go_roundg k2
                   case measure => have := HK1.out; have := HK2.out; omega
                   case rel => exact ⟨(x5_2), (wrap64 (x13_1 + 1)), (taad), H', ⟨tabj⟩, ⟨taaf⟩, ⟨taaa⟩⟩
               · rw [if_neg c10] at H
                 have c10b0 : decide (x8_2 < (rd l0 x13_1)) = false := zbh c10
                 clear c10; have H' := zad H
                 clear H; go_wp2
                 go_roundg k2
                 case measure => have := HK1.out; have := HK2.out; omega
                 case rel => exact ⟨(x5_2), (wrap64 (x13_1 + 1)), (taad), H', ⟨tabj⟩, ⟨taaf⟩, ⟨taaa⟩⟩
           · rw [if_neg c9] at H
             exact absurd H (taah)
         · rw [if_neg c8] at H
           exact absurd H (taah)
       · rw [if_neg c7] at H
         have c7b0 : decide (x13_1 < (l0.length : Int)) = false := zbh c7
         clear c7; obtain rfl := zbc H
         go_wp2
         go_ret
         exact ⟨_, taam, taaf, taaa⟩
   · rw [if_neg c4] at H
     exact absurd H (taah)
 · rw [if_neg c3] at H
   exact absurd H (taah)
def spec_JoinOf.j0 : Nat → List Int → List Int → Bool → Option (List Int × Bool)
 | 0, _, _, _ => none
 | k + 1, x0, x1, x20 => if x20 = true then (some (([] : List Int), false)) else ((spec_liConjugate.f k x0 60).bind fun t506 => ((spec_liConjugate.f k x1 60).bind fun t509 => ((spec_liMeet.f k t506 t509).bind fun t512 => ((spec_liConjugate.f k t512 (x0.length : Int)).bind fun t515 => (some (t515, true))))))
def spec_JoinOf.f (k : Nat) (l0 : List Int) (l1 : List Int) : Option (List Int × Bool) := (spec_liGood.f k l0).bind fun t503 => (if t503 = true then ((spec_liGood.f k l1).bind fun t504 => (if t504 = true then ((spec_liFit.f k l0 l1).bind fun t505 => (spec_JoinOf.j0 k l0 l1 (!t505))) else (spec_JoinOf.j0 k l0 l1 true))) else (spec_JoinOf.j0 k l0 l1 true))
theorem spec_JoinOf.calls (k : Nat) (A0 : Option Addr) (c0 : Nat) (l0 : List Int) (A1 : Option Addr) (c1 : Nat) (l1 : List Int) (r1 : List Int) (r2 : Bool) (w : World) (hr0 : Kd.C (Kd.int .i64) w A0 l0.length l0) (hc0 : l0.length ≤ c0) (hr1 : Kd.C (Kd.int .i64) w A1 l1.length l1) (hc1 : l1.length ≤ c1) (h : spec_JoinOf.f k l0 l1 = some (r1, r2)) :
 Calls Try.prog 17 #[.slice A0 l0.length c0, .slice A1 l1.length c1] w fun e w' => ∃ v0_ : Value, e = .returned (.tuple #[v0_, .bool r2]) ∧ Kd.R (Kd.int .i64) 3 w' w.heap.size (fun _ => True) v0_ r1 ∧ Below w.heap.size w w' := by
 have HR0 := zad hr0; have HC0 := zad hc0; clear hr0 hc0; have HR1 := zad hr1; have HC1 := zad hc1; clear hr1 hc1; have HB := zad (Below.refl w.heap.size w)
 have H : ((spec_liGood.f k l0).bind fun t503 => (if t503 = true then ((spec_liGood.f k l1).bind fun t504 => (if t504 = true then ((spec_liFit.f k l0 l1).bind fun t505 => (spec_JoinOf.j0 k l0 l1 (!t505))) else (spec_JoinOf.j0 k l0 l1 true))) else (spec_JoinOf.j0 k l0 l1 true))) = some (r1, r2) := h
 clear h; have HC3 := zad H; clear H; go_enter Try.func17, Try.ntmps17
 go_upto_region 1 with (fail)
 go_cut [20] (fun v20 wc => ∃ (kq : Nat) (x20_2 : Bool), v20 = .bool x20_2 ∧ Aside0 (spec_JoinOf.j0 kq l0 l1 x20_2 = some (r1, r2)) ∧ Aside0 (kq ≤ k) ∧ Aside0 (Below w.heap.size w wc))
 case first =>
  have H := HC3.out
  clear HC3; replace H := zay.mp H; obtain ⟨t503, A40, H⟩ := H
  replace H : (if t503 = true then ((spec_liGood.f k l1).bind fun t504 => (if t504 = true then ((spec_liFit.f k l0 l1).bind fun t505 => (spec_JoinOf.j0 k l0 l1 (!t505))) else (spec_JoinOf.j0 k l0 l1 true))) else (spec_JoinOf.j0 k l0 l1 true)) = some (r1, r2) := H
  have A4 := zad A40; clear A40; by_cases c5 : t503 = true
  · subst c5
    have H1 : ((spec_liGood.f k l1).bind fun t504 => (if t504 = true then ((spec_liFit.f k l0 l1).bind fun t505 => (spec_JoinOf.j0 k l0 l1 (!t505))) else (spec_JoinOf.j0 k l0 l1 true))) = some (r1, r2) := by rw [if_pos rfl] at H; exact H
    clear H; have H := H1; clear H1; replace H := zay.mp H; obtain ⟨t504, A60, H⟩ := H
    replace H : (if t504 = true then ((spec_liFit.f k l0 l1).bind fun t505 => (spec_JoinOf.j0 k l0 l1 (!t505))) else (spec_JoinOf.j0 k l0 l1 true)) = some (r1, r2) := H
    have A6 := zad A60; clear A60; by_cases c7 : t504 = true
    · subst c7
      have H1 : ((spec_liFit.f k l0 l1).bind fun t505 => (spec_JoinOf.j0 k l0 l1 (!t505))) = some (r1, r2) := by rw [if_pos rfl] at H; exact H
      clear H; have H := H1; clear H1; replace H := zay.mp H; obtain ⟨t505, A80, H⟩ := H
      replace H : (spec_JoinOf.j0 k l0 l1 (!t505)) = some (r1, r2) := H
      have A8 := zad A80; clear A80; have H' := zad H
      clear H; go_wp2_with (first | ((with_reducible refine zbf (f := 31) rfl ?_); refine zbl (some 8) rfl rfl Try.func31 (by kernel_rfl) rfl #[.slice A0 l0.length c0] rfl (taac) ?_; (with_reducible refine (spec_liGood.calls k _ _ l0 true _ ?side1 ?side2 A4.out).mono ?_); (case side1 => repeat (first | exact (Kd.C_below HR0.out HB.out) | (with_reducible refine zal ?_ _) | (with_reducible refine zam ?_ _) | (with_reducible refine zan ?_))); (case side2 => exact HC0.out); rintro e w' ⟨rfl, ⟨nd, rfl⟩⟩; refine ⟨_, rfl, ?_⟩) | (go_at_call 31; (with_reducible refine (spec_liGood.calls k _ _ l1 true _ ?side1 ?side2 A6.out).mono ?_); (case side1 => repeat (first | exact (Kd.C_below HR1.out (taaa)) | (with_reducible refine zal ?_ _) | (with_reducible refine zam ?_ _) | (with_reducible refine zan ?_))); (case side2 => exact HC1.out); rintro e w' ⟨rfl, ⟨nd, rfl⟩⟩) | (go_at_call 54; (with_reducible refine (spec_liFit.calls k _ _ l0 _ _ l1 t505 _ ?side1 ?side2 ?side3 ?side4 A8.out).mono ?_); (case side1 => repeat (first | exact (Kd.C_below HR0.out (taaa)) | (with_reducible refine zal ?_ _) | (with_reducible refine zam ?_ _) | (with_reducible refine zan ?_))); (case side2 => exact HC0.out); (case side3 => repeat (first | exact (Kd.C_below HR1.out (taaa)) | (with_reducible refine zal ?_ _) | (with_reducible refine zam ?_ _) | (with_reducible refine zan ?_))); (case side4 => exact HC1.out); rintro e w' ⟨rfl, ⟨nd, rfl⟩⟩))
      go_meet
      case rel => exact ⟨_, (!t505), (taad), H', ⟨taay⟩, ⟨taaa⟩⟩
    · replace c7 := zbg.mpr c7
      subst c7; have H1 : (spec_JoinOf.j0 k l0 l1 true) = some (r1, r2) := by rw [if_neg (show ¬ (false = true) by decide)] at H; exact H
      clear H; have H := H1; clear H1; have H' := zad H
      clear H; go_wp2_with (first | ((with_reducible refine zbf (f := 31) rfl ?_); refine zbl (some 8) rfl rfl Try.func31 (by kernel_rfl) rfl #[.slice A0 l0.length c0] rfl (taac) ?_; (with_reducible refine (spec_liGood.calls k _ _ l0 true _ ?side1 ?side2 A4.out).mono ?_); (case side1 => repeat (first | exact (Kd.C_below HR0.out HB.out) | (with_reducible refine zal ?_ _) | (with_reducible refine zam ?_ _) | (with_reducible refine zan ?_))); (case side2 => exact HC0.out); rintro e w' ⟨rfl, ⟨nd, rfl⟩⟩; refine ⟨_, rfl, ?_⟩) | (go_at_call 31; (with_reducible refine (spec_liGood.calls k _ _ l1 false _ ?side1 ?side2 A6.out).mono ?_); (case side1 => repeat (first | exact (Kd.C_below HR1.out (taaa)) | (with_reducible refine zal ?_ _) | (with_reducible refine zam ?_ _) | (with_reducible refine zan ?_))); (case side2 => exact HC1.out); rintro e w' ⟨rfl, ⟨nd, rfl⟩⟩))
      go_meet
      case rel => exact ⟨_, (true), (taad), H', ⟨taay⟩, ⟨taaa⟩⟩
  · replace c5 := zbg.mpr c5
    subst c5; have H1 : (spec_JoinOf.j0 k l0 l1 true) = some (r1, r2) := by rw [if_neg (show ¬ (false = true) by decide)] at H; exact H
    clear H; have H := H1; clear H1; have H' := zad H
    clear H; go_wp2_with (first | ((with_reducible refine zbf (f := 31) rfl ?_); refine zbl (some 8) rfl rfl Try.func31 (by kernel_rfl) rfl #[.slice A0 l0.length c0] rfl (taac) ?_; (with_reducible refine (spec_liGood.calls k _ _ l0 false _ ?side1 ?side2 A4.out).mono ?_); (case side1 => exact taep); (case side2 => exact HC0.out); rintro e w' ⟨rfl, ⟨nd, rfl⟩⟩; refine ⟨_, rfl, ?_⟩))
    go_meet
    case rel => exact ⟨_, (true), (taad), H', ⟨taay⟩, ⟨taaa⟩⟩
 case rest =>
  clear HC3; try clear c1
  try clear p2
  try clear c3
  try clear c5
  try clear c7
  obtain ⟨kq, x20_2, rfl, HA, HJ2, HB⟩ := hcut
  cases kq with
  | zero => exact absurd HA.out (by simp [spec_JoinOf.j0])
  | succ kj2 =>
   have H := HA.out
   clear HA; simp only [spec_JoinOf.j0] at H
   by_cases c9 : x20_2 = true
   · subst c9
     have H1 : (some (([] : List Int), false)) = some (r1, r2) := by rw [if_pos rfl] at H; exact H
     clear H; have H := H1; clear H1; simp only [zbj, zbn] at H
     obtain ⟨rfl, rfl⟩ := H
     go_wp2
     go_ret2
     exact ⟨_, taam, taaz, taaa⟩
   · replace c9 := zbg.mpr c9
     subst c9; have H1 : ((spec_liConjugate.f kj2 l0 60).bind fun t506 => ((spec_liConjugate.f kj2 l1 60).bind fun t509 => ((spec_liMeet.f kj2 t506 t509).bind fun t512 => ((spec_liConjugate.f kj2 t512 (l0.length : Int)).bind fun t515 => (some (t515, true)))))) = some (r1, r2) := by rw [if_neg (show ¬ (false = true) by decide)] at H; exact H
     clear H; have H := H1; clear H1; replace H := zay.mp H; obtain ⟨t506, A100, H⟩ := H
     replace H : ((spec_liConjugate.f kj2 l1 60).bind fun t509 => ((spec_liMeet.f kj2 t506 t509).bind fun t512 => ((spec_liConjugate.f kj2 t512 (l0.length : Int)).bind fun t515 => (some (t515, true))))) = some (r1, r2) := H
     have A10 := zad A100; clear A100; replace H := zay.mp H; obtain ⟨t509, A110, H⟩ := H
     replace H : ((spec_liMeet.f kj2 t506 t509).bind fun t512 => ((spec_liConjugate.f kj2 t512 (l0.length : Int)).bind fun t515 => (some (t515, true)))) = some (r1, r2) := H
     have A11 := zad A110; clear A110; replace H := zay.mp H; obtain ⟨t512, A120, H⟩ := H
     replace H : ((spec_liConjugate.f kj2 t512 (l0.length : Int)).bind fun t515 => (some (t515, true))) = some (r1, r2) := H
     have A12 := zad A120; clear A120; replace H := zay.mp H; obtain ⟨t515, A130, H⟩ := H
     replace H : (some (t515, true)) = some (r1, r2) := H
     have A13 := zad A130; clear A130; simp only [zbj, zbn] at H
     obtain ⟨rfl, rfl⟩ := H
     go_wp2_with (first | ((with_reducible refine zbf (f := 56) rfl ?_); refine zbl (some 22) rfl rfl Try.func56 (by kernel_rfl) rfl #[.slice A0 l0.length c0, .int .i64 60] rfl (taac) ?_; (with_reducible refine (spec_liConjugate.calls kj2 _ _ l0 60 t506 _ ?side1 ?side2 A10.out).mono ?_); (case side1 => repeat (first | exact (Kd.C_below HR0.out HB.out) | (with_reducible refine zal ?_ _) | (with_reducible refine zam ?_ _) | (with_reducible refine zan ?_))); (case side2 => exact HC0.out); rintro e w14 ⟨v507, rfl, ho0, hb⟩; refine ⟨_, rfl, ?_⟩; have n0_ := zad (zbs ho0 (zbi (taaa))); have n1_ := zad (zbe (taaa) hb); clear HB; have HO508 := n0_; have HB := n1_; clear n0_ n1_; (try clear hb); (try clear hb2); (try clear hk); (try clear hi); (try clear ho0)) | ((with_reducible refine zbf (f := 56) rfl ?_); refine zbl (some 24) rfl rfl Try.func56 (by kernel_rfl) rfl #[.slice A1 l1.length c1, .int .i64 60] rfl (taac) ?_; (with_reducible refine (spec_liConjugate.calls kj2 _ _ l1 60 t509 _ ?side1 ?side2 A11.out).mono ?_); (case side1 => repeat (first | exact (Kd.C_below HR1.out HB.out) | (with_reducible refine zal ?_ _) | (with_reducible refine zam ?_ _) | (with_reducible refine zan ?_))); (case side2 => exact HC1.out); rintro e w15 ⟨v510, rfl, ho0, hb⟩; refine ⟨_, rfl, ?_⟩; have n0_ := zad (zby (tabq) (zca ho0) hb); have n1_ := zad (zbs (zbz ho0 (zcb (tabq))) (zbi (taaa))); have n2_ := zad (zbe (taaa) hb); clear HO508 HB; have HO508 := n0_; have HO511 := n1_; have HB := n2_; clear n0_ n1_ n2_; (try clear hb); (try clear hb2); (try clear hk); (try clear hi); (try clear ho0); obtain ⟨Ao16, co16, eo16⟩ := zbt HO508.out; subst eo16; obtain ⟨Ao17, co17, eo17⟩ := zbt HO511.out; subst eo17) | ((with_reducible refine zbf (f := 55) rfl ?_); refine zbl (some 25) rfl rfl Try.func55 (by kernel_rfl) rfl #[.slice Ao16 t506.length co16, .slice Ao17 t509.length co17] rfl (taac) ?_; (with_reducible refine (spec_liMeet.calls kj2 _ _ t506 _ _ t509 t512 _ ?side1 ?side2 ?side3 ?side4 A12.out).mono ?_); (case side1 => repeat (first | exact (zbd HO508.out).2.2 | (with_reducible refine zal ?_ _) | (with_reducible refine zam ?_ _) | (with_reducible refine zan ?_))); (case side2 => exact (zbd HO508.out).2.1); (case side3 => repeat (first | exact (zbd HO511.out).2.2 | (with_reducible refine zal ?_ _) | (with_reducible refine zam ?_ _) | (with_reducible refine zan ?_))); (case side4 => exact (zbd HO511.out).2.1); rintro e w18 ⟨v513, rfl, ho0, hb⟩; refine ⟨_, rfl, ?_⟩; have n0_ := zad (zby (tabq) (zca ho0) hb); have n1_ := zad (zby (taci) (zca ho0) hb); have n2_ := zad (zbs (zbz (zbz ho0 (zcb (tabq))) (zcb (taci))) (zbi (taaa))); have n3_ := zad (zbe (taaa) hb); clear HO508 HO511 HB; have HO508 := n0_; have HO511 := n1_; have HO514 := n2_; have HB := n3_; clear n0_ n1_ n2_ n3_; (try clear hb); (try clear hb2); (try clear hk); (try clear hi); (try clear ho0); obtain ⟨Ao19, co19, eo19⟩ := zbt HO514.out; subst eo19) | ((with_reducible refine zbf (f := 56) rfl ?_); refine zbl (some 29) rfl rfl Try.func56 (by kernel_rfl) rfl #[.slice Ao19 t512.length co19, .int .i64 (l0.length : Int)] rfl (taac) ?_; (with_reducible refine (spec_liConjugate.calls kj2 _ _ t512 (l0.length : Int) t515 _ ?side1 ?side2 A13.out).mono ?_); (case side1 => repeat (first | exact (zbd HO514.out).2.2 | (with_reducible refine zal ?_ _) | (with_reducible refine zam ?_ _) | (with_reducible refine zan ?_))); (case side2 => exact (zbd HO514.out).2.1); rintro e w20 ⟨v516, rfl, ho0, hb⟩; refine ⟨_, rfl, ?_⟩; have n0_ := zad (zby (tabq) (zca ho0) hb); have n1_ := zad (zby (taci) (zca ho0) hb); have n2_ := zad (zby (tadh) (zca ho0) hb); have n3_ := zad (zbs (zbz (zbz (zbz ho0 (zcb (tabq))) (zcb (taci))) (zcb (tadh))) (zbi (taaa))); have n4_ := zad (zbe (taaa) hb); clear HO508 HO511 HO514 HB; have HO508 := n0_; have HO511 := n1_; have HO514 := n2_; have HO517 := n3_; have HB := n4_; clear n0_ n1_ n2_ n3_ n4_; (try clear hb); (try clear hb2); (try clear hk); (try clear hi); (try clear ho0)))
     go_ret2
     exact ⟨_, taam, by (with_reducible repeat (first | apply zai | apply zaj | apply zak)); exact zbo HO517.out (fun _ hk => trivial), taaa⟩
def impl_MeetOf.f (k : Nat) (l0 : List Int) (l1 : List Int) : Option (List Int × Bool) := (impl_areLists.f k l0 l1).bind fun t518 => (if t518 = true then ((impl_doFit.f k l0 l1).bind fun t519 => (if t519 = true then ((impl_meet.f k l0 l1).bind fun t520 => (some (t520, true))) else (some (([] : List Int), false)))) else (some (([] : List Int), false)))
theorem impl_MeetOf.calls (k : Nat) (A0 : Option Addr) (c0 : Nat) (l0 : List Int) (A1 : Option Addr) (c1 : Nat) (l1 : List Int) (r1 : List Int) (r2 : Bool) (w : World) (hr0 : Kd.C (Kd.int .i64) w A0 l0.length l0) (hc0 : l0.length ≤ c0) (hr1 : Kd.C (Kd.int .i64) w A1 l1.length l1) (hc1 : l1.length ≤ c1) (h : impl_MeetOf.f k l0 l1 = some (r1, r2)) :
 Calls Try.prog 18 #[.slice A0 l0.length c0, .slice A1 l1.length c1] w fun e w' => ∃ v0_ : Value, e = .returned (.tuple #[v0_, .bool r2]) ∧ Kd.R (Kd.int .i64) 3 w' w.heap.size (fun _ => True) v0_ r1 ∧ Below w.heap.size w w' := by
 have HR0 := zad hr0; have HC0 := zad hc0; clear hr0 hc0; have HR1 := zad hr1; have HC1 := zad hc1; clear hr1 hc1; have HB := zad (Below.refl w.heap.size w)
 have H : ((impl_areLists.f k l0 l1).bind fun t518 => (if t518 = true then ((impl_doFit.f k l0 l1).bind fun t519 => (if t519 = true then ((impl_meet.f k l0 l1).bind fun t520 => (some (t520, true))) else (some (([] : List Int), false)))) else (some (([] : List Int), false)))) = some (r1, r2) := h
 clear h; replace H := zay.mp H; obtain ⟨t518, A30, H⟩ := H
 replace H : (if t518 = true then ((impl_doFit.f k l0 l1).bind fun t519 => (if t519 = true then ((impl_meet.f k l0 l1).bind fun t520 => (some (t520, true))) else (some (([] : List Int), false)))) else (some (([] : List Int), false))) = some (r1, r2) := H
 have A3 := zad A30; clear A30; by_cases c4 : t518 = true
 · subst c4
   have H1 : ((impl_doFit.f k l0 l1).bind fun t519 => (if t519 = true then ((impl_meet.f k l0 l1).bind fun t520 => (some (t520, true))) else (some (([] : List Int), false)))) = some (r1, r2) := by rw [if_pos rfl] at H; exact H
   clear H; have H := H1; clear H1; replace H := zay.mp H; obtain ⟨t519, A50, H⟩ := H
   replace H : (if t519 = true then ((impl_meet.f k l0 l1).bind fun t520 => (some (t520, true))) else (some (([] : List Int), false))) = some (r1, r2) := H
   have A5 := zad A50; clear A50; by_cases c6 : t519 = true
   · subst c6
     have H1 : ((impl_meet.f k l0 l1).bind fun t520 => (some (t520, true))) = some (r1, r2) := by rw [if_pos rfl] at H; exact H
     clear H; have H := H1; clear H1; replace H := zay.mp H; obtain ⟨t520, A70, H⟩ := H
     replace H : (some (t520, true)) = some (r1, r2) := H
     have A7 := zad A70; clear A70; simp only [zbj, zbn] at H
     obtain ⟨rfl, rfl⟩ := H
     go_enter Try.func18, Try.ntmps18
     go_wp2_with (first | ((with_reducible refine zbf (f := 49) rfl ?_); refine zbl (some 8) rfl rfl Try.func49 (by kernel_rfl) rfl #[.slice A0 l0.length c0, .slice A1 l1.length c1] rfl (taac) ?_; (with_reducible refine (impl_areLists.calls k _ _ l0 _ _ l1 true _ ?side1 ?side2 ?side3 ?side4 A3.out).mono ?_); (case side1 => repeat (first | exact HR0.out | (with_reducible refine zal ?_ _) | (with_reducible refine zam ?_ _) | (with_reducible refine zan ?_))); (case side2 => exact HC0.out); (case side3 => repeat (first | exact HR1.out | (with_reducible refine zal ?_ _) | (with_reducible refine zam ?_ _) | (with_reducible refine zan ?_))); (case side4 => exact HC1.out); rintro e w' ⟨rfl, ⟨nd, rfl⟩⟩; refine ⟨_, rfl, ?_⟩) | (go_at_call 50; (with_reducible refine (impl_doFit.calls k _ _ l0 _ _ l1 true _ ?side1 ?side2 ?side3 ?side4 A5.out).mono ?_); (case side1 => repeat (first | exact HR0.out | (with_reducible refine zal ?_ _) | (with_reducible refine zam ?_ _) | (with_reducible refine zan ?_))); (case side2 => exact HC0.out); (case side3 => repeat (first | exact HR1.out | (with_reducible refine zal ?_ _) | (with_reducible refine zam ?_ _) | (with_reducible refine zan ?_))); (case side4 => exact HC1.out); rintro e w' ⟨rfl, ⟨nd, rfl⟩⟩) | ((with_reducible refine zbf (f := 53) rfl ?_); refine zbl (some 18) rfl rfl Try.func53 (by kernel_rfl) rfl #[.slice A0 l0.length c0, .slice A1 l1.length c1] rfl (taac) ?_; (with_reducible refine (impl_meet.calls k _ _ l0 _ _ l1 t520 _ ?side1 ?side2 ?side3 ?side4 A7.out).mono ?_); (case side1 => repeat (first | exact HR0.out | (with_reducible refine zal ?_ _) | (with_reducible refine zam ?_ _) | (with_reducible refine zan ?_))); (case side2 => exact HC0.out); (case side3 => repeat (first | exact HR1.out | (with_reducible refine zal ?_ _) | (with_reducible refine zam ?_ _) | (with_reducible refine zan ?_))); (case side4 => exact HC1.out); rintro e w8 ⟨v521, rfl, ho0, hb⟩; refine ⟨_, rfl, ?_⟩; have n0_ := zad (zbs ho0 (zbi (taaa))); have n1_ := zad (zbe (taaa) hb); clear HB; have HO522 := n0_; have HB := n1_; clear n0_ n1_; (try clear hb); (try clear hb2); (try clear hk); (try clear hi); (try clear ho0)))
     go_ret2
     exact ⟨_, taam, by (with_reducible repeat (first | apply zai | apply zaj | apply zak)); exact HO522.out, taaa⟩
   · replace c6 := zbg.mpr c6
     subst c6; have H1 : (some (([] : List Int), false)) = some (r1, r2) := by rw [if_neg (show ¬ (false = true) by decide)] at H; exact H
     clear H; have H := H1; clear H1; simp only [zbj, zbn] at H
     obtain ⟨rfl, rfl⟩ := H
     go_enter Try.func18, Try.ntmps18
     go_wp2_with (first | ((with_reducible refine zbf (f := 49) rfl ?_); refine zbl (some 8) rfl rfl Try.func49 (by kernel_rfl) rfl #[.slice A0 l0.length c0, .slice A1 l1.length c1] rfl (taac) ?_; (with_reducible refine (impl_areLists.calls k _ _ l0 _ _ l1 true _ ?side1 ?side2 ?side3 ?side4 A3.out).mono ?_); (case side1 => repeat (first | exact HR0.out | (with_reducible refine zal ?_ _) | (with_reducible refine zam ?_ _) | (with_reducible refine zan ?_))); (case side2 => exact HC0.out); (case side3 => repeat (first | exact HR1.out | (with_reducible refine zal ?_ _) | (with_reducible refine zam ?_ _) | (with_reducible refine zan ?_))); (case side4 => exact HC1.out); rintro e w' ⟨rfl, ⟨nd, rfl⟩⟩; refine ⟨_, rfl, ?_⟩) | (go_at_call 50; (with_reducible refine (impl_doFit.calls k _ _ l0 _ _ l1 false _ ?side1 ?side2 ?side3 ?side4 A5.out).mono ?_); (case side1 => repeat (first | exact HR0.out | (with_reducible refine zal ?_ _) | (with_reducible refine zam ?_ _) | (with_reducible refine zan ?_))); (case side2 => exact HC0.out); (case side3 => repeat (first | exact HR1.out | (with_reducible refine zal ?_ _) | (with_reducible refine zam ?_ _) | (with_reducible refine zan ?_))); (case side4 => exact HC1.out); rintro e w' ⟨rfl, ⟨nd, rfl⟩⟩))
     go_ret2
     exact ⟨_, taam, taaz, taaa⟩
 · replace c4 := zbg.mpr c4
   subst c4; have H1 : (some (([] : List Int), false)) = some (r1, r2) := by rw [if_neg (show ¬ (false = true) by decide)] at H; exact H
   clear H; have H := H1; clear H1; simp only [zbj, zbn] at H
   obtain ⟨rfl, rfl⟩ := H
   go_enter Try.func18, Try.ntmps18
   go_wp2_with (first | ((with_reducible refine zbf (f := 49) rfl ?_); refine zbl (some 8) rfl rfl Try.func49 (by kernel_rfl) rfl #[.slice A0 l0.length c0, .slice A1 l1.length c1] rfl (taac) ?_; (with_reducible refine (impl_areLists.calls k _ _ l0 _ _ l1 false _ ?side1 ?side2 ?side3 ?side4 A3.out).mono ?_); (case side1 => exact taen); (case side2 => exact HC0.out); (case side3 => exact taeo); (case side4 => exact HC1.out); rintro e w' ⟨rfl, ⟨nd, rfl⟩⟩; refine ⟨_, rfl, ?_⟩))
   go_ret2
   exact ⟨_, taam, taaz, taaa⟩
mutual
def spec_liRank.l0 : Nat → List Int → List Int → Int → Int → Option (List Int)
 | 0, _, _, _, _ => none
 | k + 1, x3, x7, x8, x9 => if x9 < x8 then (if 0 ≤ x9 then (if x9 < (x7.length : Int) then (spec_liRank.l1 k x3 (rd x7 x9) 0 x7 x8 x9) else (none)) else (none)) else (some x3)
def spec_liRank.l1 : Nat → List Int → Int → Int → List Int → Int → Int → Option (List Int)
 | 0, _, _, _, _, _, _ => none
 | k + 1, x3, x5, x6, x7, x8, x9 => if x6 < (x3.length : Int) then (if 0 ≤ x6 then (if (rd x3 x6) ≥ x5 then (spec_liRank.l1 k x3 x5 (wrap64 (x6 + 1)) x7 x8 x9) else (if x6 ≤ (x3.length : Int) then ((spec_l1Own.f (x3.take (x6 : Int).toNat)).bind fun t118 => ((some (([x5] : List Int) : List Int)).bind fun y121 => (if t118.length + y121.length < 17592186044416 then ((some (t118 ++ y121 : List Int)).bind fun y124 => ((some (x3.drop (x6 : Int).toNat : List Int)).bind fun y127 => (if y124.length + y127.length < 17592186044416 then (spec_liRank.l0 k (y124 ++ y127) x7 x8 (wrap64 (x9 + 1))) else (none)))) else (none)))) else (none))) else (none)) else (if 0 ≤ x6 then (if x6 ≤ (x3.length : Int) then ((spec_l1Own.f (x3.take (x6 : Int).toNat)).bind fun t138 => ((some (([x5] : List Int) : List Int)).bind fun y141 => (if t138.length + y141.length < 17592186044416 then ((some (t138 ++ y141 : List Int)).bind fun y144 => ((some (x3.drop (x6 : Int).toNat : List Int)).bind fun y147 => (if y144.length + y147.length < 17592186044416 then (spec_liRank.l0 k (y144 ++ y147) x7 x8 (wrap64 (x9 + 1))) else (none)))) else (none)))) else (none)) else (none))
end
def spec_liRank.f (k : Nat) (l0 : List Int) : Option (List Int) := spec_liRank.l0 k ([] : List Int) l0 (l0.length : Int) 0
def spec_liRank.T8 : Bool × List (List Nat × List Nat) := (true, [([], []), ([], []), ([0, 1], [0, 1]), ([2], [2]), ([], []), ([4], [4]), ([3, 5, 3], [3, 5]), ([], []), ([], []), ([7, 8], [7, 8]), ([6, 9, 6], [6, 9]), ([10, 10, 0, 1, 2, 3, 4, 5, 6, 7, 8, 9, 10], [0, 7, 10])])
def spec_liRank.B8 : List Nat := [0, 0, 3, 7, 0, 16, 63, 0, 0, 384, 1023, 2047]
theorem spec_liRank.tab8 : rtab .any (opsOf Try.f34 8) = spec_liRank.T8 := by kernel_rfl
theorem spec_liRank.bits8 : waitsOk spec_liRank.T8.2 spec_liRank.B8 = true := by kernel_rfl
theorem spec_liRank.calls (k : Nat) (A0 : Option Addr) (c0 : Nat) (l0 : List Int) (r : List Int) (w : World) (hr0 : Kd.C (Kd.int .i64) w A0 l0.length l0) (hc0 : l0.length ≤ c0) (h : spec_liRank.f k l0 = some r) :
 Calls Try.prog 34 #[.slice A0 l0.length c0] w fun e w' => ∃ v0_ : Value, e = .returned (v0_) ∧ Kd.R (Kd.int .i64) 3 w' w.heap.size (fun _ => True) v0_ r ∧ Below w.heap.size w w' := by
 have HR0 := zad hr0; have HC0 := zad hc0; clear hr0 hc0; have HB := zad (Below.refl w.heap.size w)
 have H : (spec_liRank.l0 k ([] : List Int) l0 (l0.length : Int) 0) = some r := h
 clear h; have H' := zad H
 clear H; go_enter Try.func34, Try.ntmps34
 go_wp2
 go_loopg [3, 9] k (fun kq v3 v9 w' => ∃ (x3_1 : List Int) (x9_1 : Int), v9 = .int .i64 x9_1 ∧ Aside0 (spec_liRank.l0 kq x3_1 l0 (l0.length : Int) x9_1 = some r) ∧ Aside0 (kq ≤ k) ∧ Aside0 (Kd.R (Kd.int .i64) 3 w' w.heap.size (fun _ => True) v3 x3_1) ∧ Aside0 (Below w.heap.size w w'))
 case atStart => exact ⟨(([] : List Int)), (0), (taad), H', ⟨zcc _⟩, ⟨taaz⟩, ⟨taaa⟩⟩
 case round =>
  clear H'
  obtain ⟨x3_1, x9_1, rfl, HA, HK1, HO_3, HB⟩ := hrel
  cases gk with
  | zero => exact absurd HA.out (by simp [spec_liRank.l0])
  | succ k1 =>
   have H := HA.out
   clear HA; simp only [spec_liRank.l0] at H
   by_cases c2 : x9_1 < (l0.length : Int)
   · rw [if_pos c2] at H
     have c2b0 : decide (x9_1 < (l0.length : Int)) = true := zba c2
     clear c2; by_cases c3 : 0 ≤ x9_1
     · rw [if_pos c3] at H
       have c3b0 : decide (0 ≤ x9_1) = true := zba c3
       clear c3; by_cases c4 : x9_1 < (l0.length : Int)
       · rw [if_pos c4] at H
         have c4b0 : decide (x9_1 < (l0.length : Int)) = true := zba c4
         clear c4; have H' := zad H
         clear H; have p112 : 0 ≤ (x9_1 : Int) := zas (taab)
         have q112 : x9_1 < (l0.length : Int) := zas (taab)
         obtain ⟨ad112, e112, hx112_0⟩ := zbx HR0.out x9_1 p112 q112
         cases e112
         replace hx112_0 := (HB.out.cell (zaz w _ hx112_0)).trans hx112_0
         replace p112 := eq_true p112
         replace q112 := eq_true q112
         go_wp2
         go_loopg [6] k1 (fun kq v6 w' => ∃ (x6_2 : Int), v6 = .int .i64 x6_2 ∧ Aside0 (spec_liRank.l1 kq x3_1 (rd l0 x9_1) x6_2 l0 (l0.length : Int) x9_1 = some r) ∧ Aside0 (kq ≤ k1) ∧ Aside0 (Kd.R (Kd.int .i64) 3 w' w.heap.size (fun _ => True) u3 x3_1) ∧ Aside0 (Below w.heap.size w w'))
         case atStart => exact ⟨(0), (taad), H', ⟨zcc _⟩, ⟨taaq⟩, ⟨taaa⟩⟩
         case round =>
          clear H'
          try clear p1
          try clear q1
          try clear hx1
          try clear c2
          try clear c2b0
          try clear p2
          try clear c3
          try clear c3b0
          try clear c4
          try clear c4b0
          try clear hx112_0
          try clear p112
          try clear q112
          obtain ⟨x6_2, rfl, HA, HK2, HO_3, HB⟩ := hrel
          cases gk with
          | zero => exact absurd HA.out (by simp [spec_liRank.l1])
          | succ k2 =>
           have H := HA.out
           clear HA; simp only [spec_liRank.l1] at H
           by_cases c5 : x6_2 < (x3_1.length : Int)
           · rw [if_pos c5] at H
             have c5b0 : decide (x6_2 < (x3_1.length : Int)) = true := zba c5
             clear c5; by_cases c6 : 0 ≤ x6_2
             · rw [if_pos c6] at H
               have c6b0 : decide (0 ≤ x6_2) = true := zba c6
               clear c6; by_cases c7 : (rd x3_1 x6_2) ≥ (rd l0 x9_1)
               · rw [if_pos c7] at H
                 have c7b0 : decide ((rd l0 x9_1) ≤ (rd x3_1 x6_2)) = true := zba c7
                 clear c7; have H' := zad H
                 clear H; obtain ⟨Ao8, co8, eo8⟩ := zbt HO_3.out
                 subst eo8; have p113 : 0 ≤ (x6_2 : Int) := zas (taab)
                 have q113 : x6_2 < (x3_1.length : Int) := zas (taab)
                 obtain ⟨ad113, e113, hx113_0⟩ := zbx (zbd HO_3.out).2.2 x6_2 p113 q113
                 cases e113
                 replace p113 := eq_true p113
                 replace q113 := eq_true q113
                 go_wp2
                 go_roundg k2
                 case measure => have := HK1.out; have := HK2.out; omega
                 case rel => exact ⟨(wrap64 (x6_2 + 1)), (taad), H', ⟨tabj⟩, ⟨taaq⟩, ⟨taaa⟩⟩
               · rw [if_neg c7] at H
                 have c7b0 : decide ((rd l0 x9_1) ≤ (rd x3_1 x6_2)) = false := zbh c7
                 clear c7; have c9b0 := eq_true (zas (taab) : 0 ≤ x6_2)
                 by_cases c10 : x6_2 ≤ (x3_1.length : Int)
                 · rw [if_pos c10] at H
                   have c10b0 := eq_true c10; have c10b1 : decide (x6_2 ≤ (x3_1.length : Int)) = true := zba c10
                   clear c10; obtain ⟨y114, hy114⟩ : ∃ y_ : List Int, y_ = (x3_1.take (x6_2 : Int).toNat) := ⟨_, rfl⟩
                   replace H : ((spec_l1Own.f y114).bind fun t118 => ((some (([(rd l0 x9_1)] : List Int) : List Int)).bind fun y121 => (if t118.length + y121.length < 17592186044416 then ((some (t118 ++ y121 : List Int)).bind fun y124 => ((some (x3_1.drop (x6_2 : Int).toNat : List Int)).bind fun y127 => (if y124.length + y127.length < 17592186044416 then (spec_liRank.l0 k2 (y124 ++ y127) l0 (l0.length : Int) (wrap64 (x9_1 + 1))) else (none)))) else (none)))) = some r := by first | (rw [hy114]; with_reducible exact H) | (have H2_ := (zbb _ _).symm.trans H; rw [hy114]; with_reducible exact H2_) | (have H2_ := (zbb _ _).symm.trans H; with_reducible exact H2_) | with_reducible exact H | (rw [hy114]; exact H) | exact H
                   have Ny114 := zad hy114; clear hy114; replace H := zay.mp H; obtain ⟨t118, A110, H⟩ := H
                   replace H : ((some (([(rd l0 x9_1)] : List Int) : List Int)).bind fun y121 => (if t118.length + y121.length < 17592186044416 then ((some (t118 ++ y121 : List Int)).bind fun y124 => ((some (x3_1.drop (x6_2 : Int).toNat : List Int)).bind fun y127 => (if y124.length + y127.length < 17592186044416 then (spec_liRank.l0 k2 (y124 ++ y127) l0 (l0.length : Int) (wrap64 (x9_1 + 1))) else (none)))) else (none))) = some r := H
                   have A11 := zad A110; clear A110; obtain ⟨y121, hy121⟩ : ∃ y_ : List Int, y_ = (([(rd l0 x9_1)] : List Int)) := ⟨_, rfl⟩
                   replace H : (if t118.length + y121.length < 17592186044416 then ((some (t118 ++ y121 : List Int)).bind fun y124 => ((some (x3_1.drop (x6_2 : Int).toNat : List Int)).bind fun y127 => (if y124.length + y127.length < 17592186044416 then (spec_liRank.l0 k2 (y124 ++ y127) l0 (l0.length : Int) (wrap64 (x9_1 + 1))) else (none)))) else (none)) = some r := by first | (rw [hy121]; with_reducible exact H) | (have H2_ := (zbb _ _).symm.trans H; rw [hy121]; with_reducible exact H2_) | (have H2_ := (zbb _ _).symm.trans H; with_reducible exact H2_) | with_reducible exact H | (rw [hy121]; exact H) | exact H
                   have Ny121 := zad hy121; clear hy121; by_cases c12 : t118.length + y121.length < 17592186044416
                   · rw [if_pos c12] at H
                     have LMc12 := zad c12; clear c12; obtain ⟨y124, hy124⟩ : ∃ y_ : List Int, y_ = (t118 ++ y121) := ⟨_, rfl⟩
                     replace H : ((some (x3_1.drop (x6_2 : Int).toNat : List Int)).bind fun y127 => (if y124.length + y127.length < 17592186044416 then (spec_liRank.l0 k2 (y124 ++ y127) l0 (l0.length : Int) (wrap64 (x9_1 + 1))) else (none))) = some r := by first | (rw [hy124]; with_reducible exact H) | (have H2_ := (zbb _ _).symm.trans H; rw [hy124]; with_reducible exact H2_) | (have H2_ := (zbb _ _).symm.trans H; with_reducible exact H2_) | with_reducible exact H | (rw [hy124]; exact H) | exact H
                     have Ny124 := zad hy124; clear hy124; have c13b0 := eq_true (zas (taab) : 0 ≤ x6_2)
                     have c14b0 := eq_true (zas (taab) : x6_2 ≤ (x3_1.length : Int))
                     obtain ⟨y127, hy127⟩ : ∃ y_ : List Int, y_ = (x3_1.drop (x6_2 : Int).toNat) := ⟨_, rfl⟩
                     replace H : (if y124.length + y127.length < 17592186044416 then (spec_liRank.l0 k2 (y124 ++ y127) l0 (l0.length : Int) (wrap64 (x9_1 + 1))) else (none)) = some r := by first | (rw [hy127]; with_reducible exact H) | (have H2_ := (zbb _ _).symm.trans H; rw [hy127]; with_reducible exact H2_) | (have H2_ := (zbb _ _).symm.trans H; with_reducible exact H2_) | with_reducible exact H | (rw [hy127]; exact H) | exact H
                     have Ny127 := zad hy127; clear hy127; by_cases c15 : y124.length + y127.length < 17592186044416
                     · rw [if_pos c15] at H
                       have LMc15 := zad c15; clear c15; obtain ⟨y131, hy131⟩ : ∃ y_ : List Int, y_ = (y124 ++ y127) := ⟨_, rfl⟩
                       replace H : (spec_liRank.l0 k2 y131 l0 (l0.length : Int) (wrap64 (x9_1 + 1))) = some r := by first | (rw [hy131]; with_reducible exact H) | (have H2_ := (zbb _ _).symm.trans H; rw [hy131]; with_reducible exact H2_) | (have H2_ := (zbb _ _).symm.trans H; with_reducible exact H2_) | with_reducible exact H | (rw [hy131]; exact H) | exact H
                       have Ny131 := zad hy131; clear hy131; have H' := zad H
                       clear H; obtain ⟨Ao16, co16, eo16⟩ := zbt HO_3.out
                       subst eo16; have p113 : 0 ≤ (x6_2 : Int) := zas (taab)
                       have q113 : x6_2 < (x3_1.length : Int) := zas (taab)
                       obtain ⟨ad113, e113, hx113_0⟩ := zbx (zbd HO_3.out).2.2 x6_2 p113 q113
                       cases e113
                       replace p113 := eq_true p113
                       replace q113 := eq_true q113
                       try go_wp2
                       have n0_ := zad (zak HO_3.out)
                       have n1_ := zad (zaf HB.out)
                       clear HO_3 HB; have HO_3 := n0_; have HB := n1_; clear n0_ n1_; have q18 : (x6_2 : Int) ≤ ((x3_1.length : Int) : Int) := zas (taab)
                       obtain ⟨i018, hi018, _, hsz18, _⟩ := info_parts info3
                       have hroom18 : x3_1.length ≤ co16 := (zbd HO_3.out).2.1
                       have hC18 : Kd.C (Kd.int .i64) _ (some ad113) x3_1.length x3_1 := (zbd HO_3.out).2.2
                       have hcut18 := cut_to (P := Try.prog) 22 3 .i64 Try.underlying22 hi018 (some ad113) x3_1.length co16 x6_2 (zas (taab)) q18 hroom18
                       have hr18 := Kd.C_take (m := (x6_2 : Int).toNat) hC18 (by omega)
                       have hy18 : y114.length = (x6_2 : Int).toNat := (by rw [Ny114.out, zax]; omega)
                       rw [← Ny114.out] at hr18
                       rw [← hy18] at hcut18
                       have HR117 := zad hr18; have HC117 := zad (show y114.length ≤ co16 from by omega)
                       clear hr18 hC18 hroom18 hi018 hsz18; have KY18 := zad hy18; clear hy18; have KL18 := zad (show (x6_2 : Int).toNat ≤ x3_1.length from by omega)
                       replace q18 := eq_true q18
                       have q19 : (x6_2 : Int) ≤ ((x3_1.length : Int) : Int) := zas (taab)
                       obtain ⟨i019, hi019, _, hsz19, _⟩ := info_parts info3
                       have hroom19 : x3_1.length ≤ co16 := (zbd HO_3.out).2.1
                       have hC19 : Kd.C (Kd.int .i64) _ (some ad113) x3_1.length x3_1 := (zbd HO_3.out).2.2
                       have q019 : (0 : Int) ≤ (x6_2 : Int) := zas (taab)
                       have hcut19 := cut_from (P := Try.prog) 22 3 .i64 Try.underlying22 hi019 1 hsz19 (some ad113) x3_1.length co16 x6_2 q019 q19
                       have hr19 := Kd.C_drop (m := (x6_2 : Int).toNat) (c := co16) hC19 (by omega) hroom19
                       obtain ⟨A19, hA19⟩ : ∃ A1, A1 = (if co16 = (x6_2 : Int).toNat then (some ad113) else ((some ad113) : Option Addr).map (·.add ((x6_2 : Int).toNat * 1))) := ⟨_, rfl⟩
                       obtain ⟨c19, hc19⟩ : ∃ c1, c1 = co16 - (x6_2 : Int).toNat := ⟨_, rfl⟩
                       have hy19 : y127.length = x3_1.length - (x6_2 : Int).toNat := (by rw [Ny127.out, zaw] <;> omega)
                       rw [show (x3_1).drop (x6_2 : Int).toNat = y127 from Ny127.out.symm] at hr19
                       replace hr19 : Kd.C (Kd.int .i64) _ A19 y127.length y127 := (by rw [hA19]; exact hr19)
                       rw [← hy19, ← hA19, ← hc19] at hcut19
                       have HR130 := zad hr19; have HC130 := zad (show y127.length ≤ c19 from by rw [hy19, hc19]; exact Nat.sub_le_sub_right hroom19 _)
                       clear hr19 hC19 hroom19 hi019 hsz19 hc19; have KY19 := zad hy19; have KA19 := zad hA19; clear hy19 hA19; have KL19 := zad (show (x6_2 : Int).toNat ≤ x3_1.length from by omega)
                       replace q19 := eq_true q19
                       refine start_ (n := 12) (S := fun w' => True) (ds := []) #[false, false, false, false, false, false, false, false, false, false, false, false] (by kernel_rfl) rfl rfl trivial (fun hHeld => ?_); refine with_tabW spec_liRank.tab8 spec_liRank.bits8 (fun HT_ HW_ => ?_)
                       generalize wr.drew = w17 at HO_3 HB HR117 HR130 hHeld ⊢
                       refine pure_ (i := 0) (N := some 27) (v := ?_) (a' := ?_) #[true, false, false, false, false, false, false, false, false, false, false, false] rfl rfl (zbw HT_.out (by kernel_rfl)) (fun _ _ _ h => h) (Or.inl ⟨by rfl, ?_⟩) ?_ ?_
                       rotate_left
                       · intro w'
                         go_simp; with_reducible rfl
                       rotate_left
                       · simp only [Act.put, zaa, zab, zac, zbu, zbv]
                         rfl
                       refine pure_ (i := 1) (N := some 28) (v := ?_) (a' := ?_) #[true, true, false, false, false, false, false, false, false, false, false, false] rfl rfl (zbw HT_.out (by kernel_rfl)) (fun _ _ _ h => h) (Or.inl ⟨by rfl, ?_⟩) ?_ ?_
                       rotate_left
                       · intro w'
                         go_simp; with_reducible rfl
                       rotate_left
                       · simp only [Act.put, zaa, zab, zac, zbu, zbv]
                         rfl
                       refine pure_ (i := 2) (N := some 29) (v := ?_) (a' := ?_) #[true, true, true, false, false, false, false, false, false, false, false, false] rfl rfl (zbw HT_.out (by kernel_rfl)) (fun _ _ _ h => h) (Or.inl ⟨by rfl, ?_⟩) ?_ ?_
                       rotate_left
                       · intro w'
                         go_simp; with_reducible rfl
                       rotate_left
                       · simp only [Act.put, zaa, zab, zac, zbu, zbv]
                         rfl
                       refine pure_ (i := 4) (N := some 31) (v := ?_) (a' := ?_) #[true, true, true, false, true, false, false, false, false, false, false, false] rfl rfl (zbw HT_.out (by kernel_rfl)) (fun _ _ _ h => h) (Or.inl ⟨by rfl, ?_⟩) ?_ ?_
                       rotate_left
                       · intro w'
                         go_simp; with_reducible rfl
                       rotate_left
                       · simp only [Act.put, zaa, zab, zac, zbu, zbv]
                         rfl
                       refine pure_ (i := 7) (N := some 34) (v := ?_) (a' := ?_) #[true, true, true, false, true, false, false, true, false, false, false, false] rfl rfl (zbw HT_.out (by kernel_rfl)) (fun _ _ _ h => h) (Or.inl ⟨by rfl, ?_⟩) ?_ ?_
                       rotate_left
                       · intro w'
                         go_simp; with_reducible rfl
                       rotate_left
                       · simp only [Act.put, zaa, zab, zac, zbu, zbv]
                         rfl
                       refine pure_ (i := 8) (N := some 35) (v := ?_) (a' := ?_) #[true, true, true, false, true, false, false, true, true, false, false, false] rfl rfl (zbw HT_.out (by kernel_rfl)) (fun _ _ _ h => h) (Or.inl ⟨by rfl, ?_⟩) ?_ ?_
                       rotate_left
                       · intro w'
                         go_simp; with_reducible rfl
                       rotate_left
                       · simp only [Act.put, zaa, zab, zac, zbu, zbv]
                         rfl
                       refine pure_ (i := 9) (N := some 36) (v := ?_) (a' := ?_) #[true, true, true, false, true, false, false, true, true, true, false, false] rfl rfl (zbw HT_.out (by kernel_rfl)) (fun _ _ _ h => h) (Or.inl ⟨by rfl, ?_⟩) ?_ ?_
                       rotate_left
                       · intro w'
                         go_simp; with_reducible rfl
                       rotate_left
                       · simp only [Act.put, zaa, zab, zac, zbu, zbv]
                         rfl
                       refine join_ (σ := Value × Value) 3 #[true, true, true, true, true, true, false, true, true, true, false, false] (fun s_ => [(30, s_.1), (32, s_.2)]) (fun s_ w' => (Kd.R (Kd.int .i64) 3 w' w.heap.size (fun k_ => some k_ ≠ (s_.2 : Value).ownBlock ∧ some k_ ≠ (.slice (some ad113) x3_1.length co16 : Value).ownBlock) s_.1 t118) ∧ (Kd.R (Kd.int .i64) 3 w' w.heap.size (fun k_ => some k_ ≠ (s_.1 : Value).ownBlock ∧ some k_ ≠ (.slice (some ad113) x3_1.length co16 : Value).ownBlock) s_.2 y121) ∧ (Kd.R (Kd.int .i64) 3 w' w.heap.size (fun k_ => some k_ ≠ (s_.1 : Value).ownBlock ∧ some k_ ≠ (s_.2 : Value).ownBlock) (.slice (some ad113) x3_1.length co16) x3_1) ∧ (Below w.heap.size w w')) ?_ ?_
                       rotate_left
                       · intro hCont
                         refine two_ (i := 3) (j := 5) (Ni := some 30) (Nj := some 32) #[true, true, true, true, true, false, false, true, true, true, false, false] #[true, true, true, false, true, true, false, true, true, true, false, false] rfl rfl rfl rfl (two_of HT_.out (by kernel_rfl)) (by decide) (by decide) (fun K hK => ?_) (fun K hK => ?_)
                         · skip
                           refine goes_ Try.func69 (by kernel_rfl) rfl #[.slice (some ad113) y114.length co16] (by rfl) rfl rfl (taac) ?_
                           with_reducible refine (spec_l1Own.calls _ _ y114 t118 _ ?side1 ?side2 A11.out).mono ?_
                           (case side1 => exact taet)
                           (case side2 => exact HC117.out)
                           rintro e w20 ⟨v119, rfl, ho0, hb⟩
                           refine ⟨_, rfl, ?_⟩
                           have n0_ := zad (zby (taaq) (zca ho0) hb)
                           have n1_ := zad (zbs (zbz ho0 (zcb (taaq))) (zbi (taaa)))
                           have n2_ := zad (Kd.C_below (tabr) hb)
                           have n3_ := zad (Kd.C_below (tacj) hb)
                           have n4_ := zad (zbe (taaa) hb)
                           clear HO_3 HR117 HR130 HB; have HO_3 := n0_; have HO120 := n1_; have HR117 := n2_; have HR130 := n3_; have HB := n4_; clear n0_ n1_ n2_ n3_ n4_; (try clear hb); (try clear hb2); (try clear hk); (try clear hi); (try clear ho0); refine hK.out _ _ trivial (fun hHeld => ?_)
                           clear hK K; refine norm_ (a' := ?_) ?_ ?_
                           rotate_left
                           · show Act.put _ (some 30) _ = _
                             simp only [Act.put, zaa, zab, zac, zbu, zbv]
                             rfl
                           refine one_ (i := 5) (N := some 32) #[true, true, true, true, true, true, false, true, true, true, false, false] rfl rfl (one_of HT_.out (by kernel_rfl)) (by decide) (fun K hK => ?_)
                           refine Kd.R_lit_step (Kd.int .i64) _ 3 ?hg (N := 32) ?hd (xs := ([(rd l0 x9_1)] : List Int)) (inner := [.int .i64 (rd l0 x9_1)]) (ok := fun _ => True) (okp := fun _ => True) ?hr ?hp (fun _ hk => hk) trivial (Below.refl _ _) (zcc _) (taah) ?_; (case hd => rfl); (case hg => rfl); (case hr => first | (go_simp; done) | (go_simp; rfl)); (case hp => exact (Reps.one (show Kd.M (Kd.int .i64) _ _ _ (rd l0 x9_1) [.int .i64 (rd l0 x9_1)] from rfl) (Reps.none _ _)))
                           intro v122 w21 ho22 hb hg_ hnew_
                           clear hg_ hnew_; (first | rw [← Ny121.out] at ho22 | (simp only [Int.reduceToNat] at ho22; rw [← Ny121.out] at ho22))
                           have n0_ := zad (zby (taaq) (zca ho22) hb)
                           have n1_ := zad (zby (tadi) (zca ho22) hb)
                           have n2_ := zad (zbs (zbz (zbz ho22 (zcb (taaq))) (zcb (tadi))) (zbi (taaa)))
                           have n3_ := zad (Kd.C_below (tabr) hb)
                           have n4_ := zad (Kd.C_below (tacj) hb)
                           have n5_ := zad (zbe (taaa) hb)
                           clear HO_3 HO120 HR117 HR130 HB; have HO_3 := n0_; have HO120 := n1_; have HO123 := n2_; have HR117 := n3_; have HR130 := n4_; have HB := n5_; clear n0_ n1_ n2_ n3_ n4_ n5_ hb ho22; refine hK.out _ _ trivial (fun hHeld => ?_)
                           clear hK K; refine norm_ (a' := ?_) ?_ ?_
                           rotate_left
                           · show Act.put _ (some 32) _ = _
                             simp only [Act.put, zaa, zab, zac, zbu, zbv]
                             rfl
                           exact norm_ (tack) (hCont (v119, v122) _ ⟨(tadj), (tadk), (tadl), (taaa)⟩)
                         · skip
                           refine Kd.R_lit_step (Kd.int .i64) _ 3 ?hg (N := 32) ?hd (xs := ([(rd l0 x9_1)] : List Int)) (inner := [.int .i64 (rd l0 x9_1)]) (ok := fun _ => True) (okp := fun _ => True) ?hr ?hp (fun _ hk => hk) trivial (Below.refl _ _) (zcc _) (taah) ?_; (case hd => rfl); (case hg => rfl); (case hr => first | (go_simp; done) | (go_simp; rfl)); (case hp => exact (Reps.one (show Kd.M (Kd.int .i64) _ _ _ (rd l0 x9_1) [.int .i64 (rd l0 x9_1)] from rfl) (Reps.none _ _)))
                           intro v122 w20 ho21 hb hg_ hnew_
                           clear hg_ hnew_; (first | rw [← Ny121.out] at ho21 | (simp only [Int.reduceToNat] at ho21; rw [← Ny121.out] at ho21))
                           have n0_ := zad (zby (taaq) (zca ho21) hb)
                           have n1_ := zad (zbs (zbz ho21 (zcb (taaq))) (zbi (taaa)))
                           have n2_ := zad (Kd.C_below (tabr) hb)
                           have n3_ := zad (Kd.C_below (tacj) hb)
                           have n4_ := zad (zbe (taaa) hb)
                           clear HO_3 HR117 HR130 HB; have HO_3 := n0_; have HO123 := n1_; have HR117 := n2_; have HR130 := n3_; have HB := n4_; clear n0_ n1_ n2_ n3_ n4_ hb ho21; refine hK.out _ _ trivial (fun hHeld => ?_)
                           clear hK K; refine norm_ (a' := ?_) ?_ ?_
                           rotate_left
                           · show Act.put _ (some 32) _ = _
                             simp only [Act.put, zaa, zab, zac, zbu, zbv]
                             rfl
                           refine one_ (i := 3) (N := some 30) #[true, true, true, true, true, true, false, true, true, true, false, false] rfl rfl (one_of HT_.out (by kernel_rfl)) (by decide) (fun K hK => ?_)
                           refine goes_ Try.func69 (by kernel_rfl) rfl #[.slice (some ad113) y114.length co16] (by rfl) rfl rfl (taac) ?_
                           with_reducible refine (spec_l1Own.calls _ _ y114 t118 _ ?side1 ?side2 A11.out).mono ?_
                           (case side1 => exact taet)
                           (case side2 => exact HC117.out)
                           rintro e w22 ⟨v119, rfl, ho0, hb⟩
                           refine ⟨_, rfl, ?_⟩
                           have n0_ := zad (zby (taaq) (zca ho0) hb)
                           have n1_ := zad (zby (tabu) (zca ho0) hb)
                           have n2_ := zad (zbs (zbz (zbz ho0 (zcb (taaq))) (zcb (tabu))) (zbi (taaa)))
                           have n3_ := zad (Kd.C_below (tabr) hb)
                           have n4_ := zad (Kd.C_below (tacj) hb)
                           have n5_ := zad (zbe (taaa) hb)
                           clear HO_3 HO123 HR117 HR130 HB; have HO_3 := n0_; have HO123 := n1_; have HO120 := n2_; have HR117 := n3_; have HR130 := n4_; have HB := n5_; clear n0_ n1_ n2_ n3_ n4_ n5_; (try clear hb); (try clear hb2); (try clear hk); (try clear hi); (try clear ho0); refine hK.out _ _ trivial (fun hHeld => ?_)
                           clear hK K; refine norm_ (a' := ?_) ?_ ?_
                           rotate_left
                           · show Act.put _ (some 30) _ = _
                             simp only [Act.put, zaa, zab, zac, zbu, zbv]
                             rfl
                           exact norm_ (tack) (hCont (v119, v122) _ ⟨(tadj), (tadk), (tadm), (taaa)⟩)
                       rintro ⟨v119, v122⟩ w23 ⟨h0_, h1_, h2_, h3_⟩
                       have n0_ : Aside0 (Kd.R (Kd.int .i64) 3 w23 w.heap.size (fun k_ => some k_ ≠ (v122 : Value).ownBlock ∧ some k_ ≠ (.slice (some ad113) x3_1.length co16 : Value).ownBlock) v119 t118) := ⟨h0_⟩
                       have n1_ : Aside0 (Kd.R (Kd.int .i64) 3 w23 w.heap.size (fun k_ => some k_ ≠ (v119 : Value).ownBlock ∧ some k_ ≠ (.slice (some ad113) x3_1.length co16 : Value).ownBlock) v122 y121) := ⟨h1_⟩
                       have n2_ : Aside0 (Kd.R (Kd.int .i64) 3 w23 w.heap.size (fun k_ => some k_ ≠ (v119 : Value).ownBlock ∧ some k_ ≠ (v122 : Value).ownBlock) (.slice (some ad113) x3_1.length co16) x3_1) := ⟨h2_⟩
                       have n3_ : Aside0 (Below w.heap.size w w23) := ⟨h3_⟩
                       clear HO_3 HB h0_ h1_ h2_ h3_; have HO120 := n0_; have HO123 := n1_; have HO_3 := n2_; have HB := n3_; clear n0_ n1_ n2_ n3_; have hHeld := trivial
                       obtain ⟨Ao25, co25, eo25⟩ := zbt HO123.out
                       (first | subst eo25 | (injection eo25 with f1_ f2_ f3_; have f4_ := f1_.symm; have f5_ := f3_.symm; clear f1_ f2_ f3_; subst f4_; subst f5_))
                       refine norm_ (a' := ?_) ?_ ?_
                       rotate_left
                       · simp only [putAll, Act.put, zaa, zab, zac]
                         rfl
                       refine one_ (i := 6) (N := some 33) #[true, true, true, true, true, true, true, true, true, true, false, false] rfl rfl (one_of HT_.out (by kernel_rfl)) (by decide) (fun K hK => ?_)
                       refine Kd.R_append_rows_step (Kd.int .i64) (w0 := w) w.heap.size (by rfl) (.tmp 30) (.tmp 32) 22 3 (.int .i64 0) 8 rfl Try.underlying22 info3 rfl (by decide) (by omega) v119 t118 y121 _ _ _ (fun k_ => some k_ ≠ (.slice (some ad113) x3_1.length co16 : Value).ownBlock ∧ some k_ ≠ (.slice Ao25 y121.length co25 : Value).ownBlock) (fun _ => False) rfl rfl ?aO ?aR (fun _ _ h => h) (fun _ h => h.elim) ?aF ?aB ?aS ?aL ?_
                       (case aR => repeat (first | exact (zbd HO123.out).2.2 | (with_reducible refine zal ?_ _) | (with_reducible refine zam ?_ _) | (with_reducible refine zan ?_)))
                       (case aB => exact (taaa))
                       (case aF => exact (fun k_ hk => ⟨Kd.fresh' (zcb (taaq)) k_ hk, Kd.fresh' (zcb (tabu)) k_ hk⟩))
                       (case aO => exact (by (with_reducible repeat (first | apply zai | apply zaj | apply zak)); exact zbo HO120.out (fun _ hk => ⟨hk.2, hk.1⟩)))
                       (case aS => exact (zbi (taaa)))
                       (case aL => have := LMc12.out; omega)
                       intro v125 w24 ho hb hg hat
                       rw [← Ny124.out] at ho
                       have n0_ := zad (Kd.R_after (ok := (fun k_ => some k_ ≠ (.slice Ao25 y121.length co25 : Value).ownBlock)) (tadn) hg hat)
                       have n1_ := zad (Kd.R_after (ok := (fun k_ => some k_ ≠ (.slice (some ad113) x3_1.length co16 : Value).ownBlock)) (by (with_reducible repeat (first | apply zai | apply zaj | apply zak)); exact zbo HO123.out (fun _ hk => ⟨hk.2, hk.1⟩)) hg hat)
                       have n2_ := zad (hb)
                       have n3_ := zad (ho)
                       clear HO_3 HO123 HB HO120; have HO_3 := n0_; have HO123 := n1_; have HB := n2_; have HO126 := n3_; clear n0_ n1_ n2_ n3_ ho hb hg hat; refine hK.out _ _ trivial (fun hHeld => ?_)
                       clear hK K; refine norm_ (a' := ?_) ?_ ?_
                       rotate_left
                       · show Act.put _ (some 33) _ = _
                         simp only [Act.put, zaa, zab, zac, zbu, zbv]
                         rfl
                       refine one_ (i := 10) (N := some 37) #[true, true, true, true, true, true, true, true, true, true, true, false] rfl rfl (one_of HT_.out (by kernel_rfl)) (by decide) (fun K hK => ?_)
                       refine Kd.R_append_rows_step (Kd.int .i64) (w0 := w) w.heap.size (by rfl) (.tmp 33) (.tmp 36) 22 3 (.int .i64 0) 8 rfl Try.underlying22 info3 rfl (by decide) (by omega) v125 y124 y127 _ _ _ (fun k_ => some k_ ≠ (.slice (some ad113) x3_1.length co16 : Value).ownBlock ∧ some k_ ≠ (.slice Ao25 y121.length co25 : Value).ownBlock) (fun _ => False) rfl rfl ?aO ?aR (fun _ _ h => h) (fun _ h => h.elim) ?aF ?aB ?aS ?aL ?_
                       (case aR => repeat (first | exact (show Kd.C (Kd.int .i64) _ A19 y127.length y127 from by rw [Ny127.out, KA19.out]; exact Kd.C_drop (m := (x6_2 : Int).toNat) (c := co16) ((zbd HO_3.out).2.2) KL19.out ((zbd HO_3.out).2.1)) | (with_reducible refine zal ?_ _) | (with_reducible refine zam ?_ _) | (with_reducible refine zan ?_)))
                       (case aB => exact (taaa))
                       (case aF => exact (fun k_ hk => ⟨Kd.fresh' (zcb (taaq)) k_ hk, Kd.fresh' (zcb (tabu)) k_ hk⟩))
                       (case aO => exact (by (with_reducible repeat (first | apply zai | apply zaj | apply zak)); exact HO126.out))
                       (case aS => exact (zbi (taaa)))
                       (case aL => have := LMc15.out; omega)
                       intro v132 w26 ho hb hg hat
                       rw [← Ny131.out] at ho
                       have n0_ := zad (Kd.R_after (ok := (fun k_ => some k_ ≠ (.slice Ao25 y121.length co25 : Value).ownBlock)) (taaq) hg hat)
                       have n1_ := zad (Kd.R_after (ok := (fun k_ => some k_ ≠ (.slice (some ad113) x3_1.length co16 : Value).ownBlock)) (tabu) hg hat)
                       have n2_ := zad (hb)
                       have n3_ := zad (ho)
                       clear HO_3 HO123 HB HO126; have HO_3 := n0_; have HO123 := n1_; have HB := n2_; have HO133 := n3_; clear n0_ n1_ n2_ n3_ ho hb hg hat; refine hK.out _ _ trivial (fun hHeld => ?_)
                       clear hK K; refine norm_ (a' := ?_) ?_ ?_
                       rotate_left
                       · show Act.put _ (some 37) _ = _
                         simp only [Act.put, zaa, zab, zac, zbu, zbv]
                         rfl
                       refine pure_ (i := 11) (N := some 3) (v := ?_) (a' := ?_) #[true, true, true, true, true, true, true, true, true, true, true, true] rfl rfl (zbw HT_.out (by kernel_rfl)) (fun _ _ _ h => h) (Or.inl ⟨by rfl, ?_⟩) ?_ ?_
                       rotate_left
                       · intro w'
                         go_simp; with_reducible rfl
                       rotate_left
                       · simp only [Act.put, zaa, zab, zac, zbu, zbv]
                         rfl
                       refine done_ (done_of HT_.out (by kernel_rfl)) ?_
                       try go_wp2
                       go_roundg k2
                       case measure => have := HK1.out; have := HK2.out; omega
                       case rel => exact ⟨(y131), (wrap64 (x9_1 + 1)), (taad), H', ⟨tabj⟩, ⟨by (with_reducible repeat (first | apply zai | apply zaj | apply zak)); exact zbo HO133.out (fun _ hk => trivial)⟩, ⟨taaa⟩⟩
                     · rw [if_neg c15] at H
                       exact absurd H (taah)
                   · rw [if_neg c12] at H
                     exact absurd H (taah)
                 · rw [if_neg c10] at H
                   exact absurd H (taah)
             · rw [if_neg c6] at H
               exact absurd H (taah)
           · rw [if_neg c5] at H
             have c5b0 : decide (x6_2 < (x3_1.length : Int)) = false := zbh c5
             clear c5; by_cases c27 : 0 ≤ x6_2
             · rw [if_pos c27] at H
               have c27b0 := eq_true c27; have c27b1 : decide (0 ≤ x6_2) = true := zba c27
               clear c27; by_cases c28 : x6_2 ≤ (x3_1.length : Int)
               · rw [if_pos c28] at H
                 have c28b0 := eq_true c28; have c28b1 : decide (x6_2 ≤ (x3_1.length : Int)) = true := zba c28
                 clear c28; obtain ⟨y134, hy134⟩ : ∃ y_ : List Int, y_ = (x3_1.take (x6_2 : Int).toNat) := ⟨_, rfl⟩
                 replace H : ((spec_l1Own.f y134).bind fun t138 => ((some (([(rd l0 x9_1)] : List Int) : List Int)).bind fun y141 => (if t138.length + y141.length < 17592186044416 then ((some (t138 ++ y141 : List Int)).bind fun y144 => ((some (x3_1.drop (x6_2 : Int).toNat : List Int)).bind fun y147 => (if y144.length + y147.length < 17592186044416 then (spec_liRank.l0 k2 (y144 ++ y147) l0 (l0.length : Int) (wrap64 (x9_1 + 1))) else (none)))) else (none)))) = some r := by first | (rw [hy134]; with_reducible exact H) | (have H2_ := (zbb _ _).symm.trans H; rw [hy134]; with_reducible exact H2_) | (have H2_ := (zbb _ _).symm.trans H; with_reducible exact H2_) | with_reducible exact H | (rw [hy134]; exact H) | exact H
                 have Ny134 := zad hy134; clear hy134; replace H := zay.mp H; obtain ⟨t138, A290, H⟩ := H
                 replace H : ((some (([(rd l0 x9_1)] : List Int) : List Int)).bind fun y141 => (if t138.length + y141.length < 17592186044416 then ((some (t138 ++ y141 : List Int)).bind fun y144 => ((some (x3_1.drop (x6_2 : Int).toNat : List Int)).bind fun y147 => (if y144.length + y147.length < 17592186044416 then (spec_liRank.l0 k2 (y144 ++ y147) l0 (l0.length : Int) (wrap64 (x9_1 + 1))) else (none)))) else (none))) = some r := H
                 have A29 := zad A290; clear A290; obtain ⟨y141, hy141⟩ : ∃ y_ : List Int, y_ = (([(rd l0 x9_1)] : List Int)) := ⟨_, rfl⟩
                 replace H : (if t138.length + y141.length < 17592186044416 then ((some (t138 ++ y141 : List Int)).bind fun y144 => ((some (x3_1.drop (x6_2 : Int).toNat : List Int)).bind fun y147 => (if y144.length + y147.length < 17592186044416 then (spec_liRank.l0 k2 (y144 ++ y147) l0 (l0.length : Int) (wrap64 (x9_1 + 1))) else (none)))) else (none)) = some r := by first | (rw [hy141]; with_reducible exact H) | (have H2_ := (zbb _ _).symm.trans H; rw [hy141]; with_reducible exact H2_) | (have H2_ := (zbb _ _).symm.trans H; with_reducible exact H2_) | with_reducible exact H | (rw [hy141]; exact H) | exact H
                 have Ny141 := zad hy141; clear hy141; by_cases c30 : t138.length + y141.length < 17592186044416
                 · rw [if_pos c30] at H
                   have LMc30 := zad c30; clear c30; obtain ⟨y144, hy144⟩ : ∃ y_ : List Int, y_ = (t138 ++ y141) := ⟨_, rfl⟩
                   replace H : ((some (x3_1.drop (x6_2 : Int).toNat : List Int)).bind fun y147 => (if y144.length + y147.length < 17592186044416 then (spec_liRank.l0 k2 (y144 ++ y147) l0 (l0.length : Int) (wrap64 (x9_1 + 1))) else (none))) = some r := by first | (rw [hy144]; with_reducible exact H) | (have H2_ := (zbb _ _).symm.trans H; rw [hy144]; with_reducible exact H2_) | (have H2_ := (zbb _ _).symm.trans H; with_reducible exact H2_) | with_reducible exact H | (rw [hy144]; exact H) | exact H
                   have Ny144 := zad hy144; clear hy144; have c31b0 := eq_true (zas (taab) : 0 ≤ x6_2)
                   have c32b0 := eq_true (zas (taab) : x6_2 ≤ (x3_1.length : Int))
                   obtain ⟨y147, hy147⟩ : ∃ y_ : List Int, y_ = (x3_1.drop (x6_2 : Int).toNat) := ⟨_, rfl⟩
                   replace H : (if y144.length + y147.length < 17592186044416 then (spec_liRank.l0 k2 (y144 ++ y147) l0 (l0.length : Int) (wrap64 (x9_1 + 1))) else (none)) = some r := by first | (rw [hy147]; with_reducible exact H) | (have H2_ := (zbb _ _).symm.trans H; rw [hy147]; with_reducible exact H2_) | (have H2_ := (zbb _ _).symm.trans H; with_reducible exact H2_) | with_reducible exact H | (rw [hy147]; exact H) | exact H
                   have Ny147 := zad hy147; clear hy147; by_cases c33 : y144.length + y147.length < 17592186044416
                   · rw [if_pos c33] at H
                     have LMc33 := zad c33; clear c33; obtain ⟨y151, hy151⟩ : ∃ y_ : List Int, y_ = (y144 ++ y147) := ⟨_, rfl⟩
                     replace H : (spec_liRank.l0 k2 y151 l0 (l0.length : Int) (wrap64 (x9_1 + 1))) = some r := by first | (rw [hy151]; with_reducible exact H) | (have H2_ := (zbb _ _).symm.trans H; rw [hy151]; with_reducible exact H2_) | (have H2_ := (zbb _ _).symm.trans H; with_reducible exact H2_) | with_reducible exact H | (rw [hy151]; exact H) | exact H
                     have Ny151 := zad hy151; clear hy151; have H' := zad H
                     clear H; obtain ⟨Ao34, co34, eo34⟩ := zbt HO_3.out
                     subst eo34; try go_wp2
                     have n0_ := zad (zak HO_3.out)
                     have n1_ := zad (zaf HB.out)
                     clear HO_3 HB; have HO_3 := n0_; have HB := n1_; clear n0_ n1_; have q36 : (x6_2 : Int) ≤ ((x3_1.length : Int) : Int) := zas (taab)
                     obtain ⟨i036, hi036, _, hsz36, _⟩ := info_parts info3
                     have hroom36 : x3_1.length ≤ co34 := (zbd HO_3.out).2.1
                     have hC36 : Kd.C (Kd.int .i64) _ Ao34 x3_1.length x3_1 := (zbd HO_3.out).2.2
                     have hcut36 := cut_to (P := Try.prog) 22 3 .i64 Try.underlying22 hi036 Ao34 x3_1.length co34 x6_2 (zas (taab)) q36 hroom36
                     have hr36 := Kd.C_take (m := (x6_2 : Int).toNat) hC36 (by omega)
                     have hy36 : y134.length = (x6_2 : Int).toNat := (by rw [Ny134.out, zax]; omega)
                     rw [← Ny134.out] at hr36
                     rw [← hy36] at hcut36
                     have HR137 := zad hr36; have HC137 := zad (show y134.length ≤ co34 from by omega)
                     clear hr36 hC36 hroom36 hi036 hsz36; have KY36 := zad hy36; clear hy36; have KL36 := zad (show (x6_2 : Int).toNat ≤ x3_1.length from by omega)
                     replace q36 := eq_true q36
                     have q37 : (x6_2 : Int) ≤ ((x3_1.length : Int) : Int) := zas (taab)
                     obtain ⟨i037, hi037, _, hsz37, _⟩ := info_parts info3
                     have hroom37 : x3_1.length ≤ co34 := (zbd HO_3.out).2.1
                     have hC37 : Kd.C (Kd.int .i64) _ Ao34 x3_1.length x3_1 := (zbd HO_3.out).2.2
                     have q037 : (0 : Int) ≤ (x6_2 : Int) := zas (taab)
                     have hcut37 := cut_from (P := Try.prog) 22 3 .i64 Try.underlying22 hi037 1 hsz37 Ao34 x3_1.length co34 x6_2 q037 q37
                     have hr37 := Kd.C_drop (m := (x6_2 : Int).toNat) (c := co34) hC37 (by omega) hroom37
                     obtain ⟨A37, hA37⟩ : ∃ A1, A1 = (if co34 = (x6_2 : Int).toNat then Ao34 else (Ao34 : Option Addr).map (·.add ((x6_2 : Int).toNat * 1))) := ⟨_, rfl⟩
                     obtain ⟨c37, hc37⟩ : ∃ c1, c1 = co34 - (x6_2 : Int).toNat := ⟨_, rfl⟩
                     have hy37 : y147.length = x3_1.length - (x6_2 : Int).toNat := (by rw [Ny147.out, zaw] <;> omega)
                     rw [show (x3_1).drop (x6_2 : Int).toNat = y147 from Ny147.out.symm] at hr37
                     replace hr37 : Kd.C (Kd.int .i64) _ A37 y147.length y147 := (by rw [hA37]; exact hr37)
                     rw [← hy37, ← hA37, ← hc37] at hcut37
                     have HR150 := zad hr37; have HC150 := zad (show y147.length ≤ c37 from by rw [hy37, hc37]; exact Nat.sub_le_sub_right hroom37 _)
                     clear hr37 hC37 hroom37 hi037 hsz37 hc37; have KY37 := zad hy37; have KA37 := zad hA37; clear hy37 hA37; have KL37 := zad (show (x6_2 : Int).toNat ≤ x3_1.length from by omega)
                     replace q37 := eq_true q37
                     refine start_ (n := 12) (S := fun w' => True) (ds := []) #[false, false, false, false, false, false, false, false, false, false, false, false] (by kernel_rfl) rfl rfl trivial (fun hHeld => ?_); refine with_tabW spec_liRank.tab8 spec_liRank.bits8 (fun HT_ HW_ => ?_)
                     generalize wr.drew = w35 at HO_3 HB HR137 HR150 hHeld ⊢
                     refine pure_ (i := 0) (N := some 27) (v := ?_) (a' := ?_) #[true, false, false, false, false, false, false, false, false, false, false, false] rfl rfl (zbw HT_.out (by kernel_rfl)) (fun _ _ _ h => h) (Or.inl ⟨by rfl, ?_⟩) ?_ ?_
                     rotate_left
                     · intro w'
                       go_simp; with_reducible rfl
                     rotate_left
                     · simp only [Act.put, zaa, zab, zac, zbu, zbv]
                       rfl
                     refine pure_ (i := 1) (N := some 28) (v := ?_) (a' := ?_) #[true, true, false, false, false, false, false, false, false, false, false, false] rfl rfl (zbw HT_.out (by kernel_rfl)) (fun _ _ _ h => h) (Or.inl ⟨by rfl, ?_⟩) ?_ ?_
                     rotate_left
                     · intro w'
                       go_simp; with_reducible rfl
                     rotate_left
                     · simp only [Act.put, zaa, zab, zac, zbu, zbv]
                       rfl
                     refine pure_ (i := 2) (N := some 29) (v := ?_) (a' := ?_) #[true, true, true, false, false, false, false, false, false, false, false, false] rfl rfl (zbw HT_.out (by kernel_rfl)) (fun _ _ _ h => h) (Or.inl ⟨by rfl, ?_⟩) ?_ ?_
                     rotate_left
                     · intro w'
                       go_simp; with_reducible rfl
                     rotate_left
                     · simp only [Act.put, zaa, zab, zac, zbu, zbv]
                       rfl
                     refine pure_ (i := 4) (N := some 31) (v := ?_) (a' := ?_) #[true, true, true, false, true, false, false, false, false, false, false, false] rfl rfl (zbw HT_.out (by kernel_rfl)) (fun _ _ _ h => h) (Or.inl ⟨by rfl, ?_⟩) ?_ ?_
                     rotate_left
                     · intro w'
                       go_simp; with_reducible rfl
                     rotate_left
                     · simp only [Act.put, zaa, zab, zac, zbu, zbv]
                       rfl
                     refine pure_ (i := 7) (N := some 34) (v := ?_) (a' := ?_) #[true, true, true, false, true, false, false, true, false, false, false, false] rfl rfl (zbw HT_.out (by kernel_rfl)) (fun _ _ _ h => h) (Or.inl ⟨by rfl, ?_⟩) ?_ ?_
                     rotate_left
                     · intro w'
                       go_simp; with_reducible rfl
                     rotate_left
                     · simp only [Act.put, zaa, zab, zac, zbu, zbv]
                       rfl
                     refine pure_ (i := 8) (N := some 35) (v := ?_) (a' := ?_) #[true, true, true, false, true, false, false, true, true, false, false, false] rfl rfl (zbw HT_.out (by kernel_rfl)) (fun _ _ _ h => h) (Or.inl ⟨by rfl, ?_⟩) ?_ ?_
                     rotate_left
                     · intro w'
                       go_simp; with_reducible rfl
                     rotate_left
                     · simp only [Act.put, zaa, zab, zac, zbu, zbv]
                       rfl
                     refine pure_ (i := 9) (N := some 36) (v := ?_) (a' := ?_) #[true, true, true, false, true, false, false, true, true, true, false, false] rfl rfl (zbw HT_.out (by kernel_rfl)) (fun _ _ _ h => h) (Or.inl ⟨by rfl, ?_⟩) ?_ ?_
                     rotate_left
                     · intro w'
                       go_simp; with_reducible rfl
                     rotate_left
                     · simp only [Act.put, zaa, zab, zac, zbu, zbv]
                       rfl
                     refine join_ (σ := Value × Value) 3 #[true, true, true, true, true, true, false, true, true, true, false, false] (fun s_ => [(30, s_.1), (32, s_.2)]) (fun s_ w' => (Kd.R (Kd.int .i64) 3 w' w.heap.size (fun k_ => some k_ ≠ (s_.2 : Value).ownBlock ∧ some k_ ≠ (.slice Ao34 x3_1.length co34 : Value).ownBlock) s_.1 t138) ∧ (Kd.R (Kd.int .i64) 3 w' w.heap.size (fun k_ => some k_ ≠ (s_.1 : Value).ownBlock ∧ some k_ ≠ (.slice Ao34 x3_1.length co34 : Value).ownBlock) s_.2 y141) ∧ (Kd.R (Kd.int .i64) 3 w' w.heap.size (fun k_ => some k_ ≠ (s_.1 : Value).ownBlock ∧ some k_ ≠ (s_.2 : Value).ownBlock) (.slice Ao34 x3_1.length co34) x3_1) ∧ (Below w.heap.size w w')) ?_ ?_
                     rotate_left
                     · intro hCont
                       refine two_ (i := 3) (j := 5) (Ni := some 30) (Nj := some 32) #[true, true, true, true, true, false, false, true, true, true, false, false] #[true, true, true, false, true, true, false, true, true, true, false, false] rfl rfl rfl rfl (two_of HT_.out (by kernel_rfl)) (by decide) (by decide) (fun K hK => ?_) (fun K hK => ?_)
                       · skip
                         refine goes_ Try.func69 (by kernel_rfl) rfl #[.slice Ao34 y134.length co34] (by rfl) rfl rfl (taac) ?_
                         with_reducible refine (spec_l1Own.calls _ _ y134 t138 _ ?side1 ?side2 A29.out).mono ?_
                         (case side1 => exact taeu)
                         (case side2 => exact HC137.out)
                         rintro e w38 ⟨v139, rfl, ho0, hb⟩
                         refine ⟨_, rfl, ?_⟩
                         have n0_ := zad (zby (taaq) (zca ho0) hb)
                         have n1_ := zad (zbs (zbz ho0 (zcb (taaq))) (zbi (taaa)))
                         have n2_ := zad (Kd.C_below (tabs) hb)
                         have n3_ := zad (Kd.C_below (tacl) hb)
                         have n4_ := zad (zbe (taaa) hb)
                         clear HO_3 HR137 HR150 HB; have HO_3 := n0_; have HO140 := n1_; have HR137 := n2_; have HR150 := n3_; have HB := n4_; clear n0_ n1_ n2_ n3_ n4_; (try clear hb); (try clear hb2); (try clear hk); (try clear hi); (try clear ho0); refine hK.out _ _ trivial (fun hHeld => ?_)
                         clear hK K; refine norm_ (a' := ?_) ?_ ?_
                         rotate_left
                         · show Act.put _ (some 30) _ = _
                           simp only [Act.put, zaa, zab, zac, zbu, zbv]
                           rfl
                         refine one_ (i := 5) (N := some 32) #[true, true, true, true, true, true, false, true, true, true, false, false] rfl rfl (one_of HT_.out (by kernel_rfl)) (by decide) (fun K hK => ?_)
                         refine Kd.R_lit_step (Kd.int .i64) _ 3 ?hg (N := 32) ?hd (xs := ([(rd l0 x9_1)] : List Int)) (inner := [.int .i64 (rd l0 x9_1)]) (ok := fun _ => True) (okp := fun _ => True) ?hr ?hp (fun _ hk => hk) trivial (Below.refl _ _) (zcc _) (taah) ?_; (case hd => rfl); (case hg => rfl); (case hr => first | (go_simp; done) | (go_simp; rfl)); (case hp => exact (Reps.one (show Kd.M (Kd.int .i64) _ _ _ (rd l0 x9_1) [.int .i64 (rd l0 x9_1)] from rfl) (Reps.none _ _)))
                         intro v142 w39 ho40 hb hg_ hnew_
                         clear hg_ hnew_; (first | rw [← Ny141.out] at ho40 | (simp only [Int.reduceToNat] at ho40; rw [← Ny141.out] at ho40))
                         have n0_ := zad (zby (taaq) (zca ho40) hb)
                         have n1_ := zad (zby (tado) (zca ho40) hb)
                         have n2_ := zad (zbs (zbz (zbz ho40 (zcb (taaq))) (zcb (tado))) (zbi (taaa)))
                         have n3_ := zad (Kd.C_below (tabs) hb)
                         have n4_ := zad (Kd.C_below (tacl) hb)
                         have n5_ := zad (zbe (taaa) hb)
                         clear HO_3 HO140 HR137 HR150 HB; have HO_3 := n0_; have HO140 := n1_; have HO143 := n2_; have HR137 := n3_; have HR150 := n4_; have HB := n5_; clear n0_ n1_ n2_ n3_ n4_ n5_ hb ho40; refine hK.out _ _ trivial (fun hHeld => ?_)
                         clear hK K; refine norm_ (a' := ?_) ?_ ?_
                         rotate_left
                         · show Act.put _ (some 32) _ = _
                           simp only [Act.put, zaa, zab, zac, zbu, zbv]
                           rfl
                         exact norm_ (tack) (hCont (v139, v142) _ ⟨(tadp), (tadq), (tadl), (taaa)⟩)
                       · skip
                         refine Kd.R_lit_step (Kd.int .i64) _ 3 ?hg (N := 32) ?hd (xs := ([(rd l0 x9_1)] : List Int)) (inner := [.int .i64 (rd l0 x9_1)]) (ok := fun _ => True) (okp := fun _ => True) ?hr ?hp (fun _ hk => hk) trivial (Below.refl _ _) (zcc _) (taah) ?_; (case hd => rfl); (case hg => rfl); (case hr => first | (go_simp; done) | (go_simp; rfl)); (case hp => exact (Reps.one (show Kd.M (Kd.int .i64) _ _ _ (rd l0 x9_1) [.int .i64 (rd l0 x9_1)] from rfl) (Reps.none _ _)))
                         intro v142 w38 ho39 hb hg_ hnew_
                         clear hg_ hnew_; (first | rw [← Ny141.out] at ho39 | (simp only [Int.reduceToNat] at ho39; rw [← Ny141.out] at ho39))
                         have n0_ := zad (zby (taaq) (zca ho39) hb)
                         have n1_ := zad (zbs (zbz ho39 (zcb (taaq))) (zbi (taaa)))
                         have n2_ := zad (Kd.C_below (tabs) hb)
                         have n3_ := zad (Kd.C_below (tacl) hb)
                         have n4_ := zad (zbe (taaa) hb)
                         clear HO_3 HR137 HR150 HB; have HO_3 := n0_; have HO143 := n1_; have HR137 := n2_; have HR150 := n3_; have HB := n4_; clear n0_ n1_ n2_ n3_ n4_ hb ho39; refine hK.out _ _ trivial (fun hHeld => ?_)
                         clear hK K; refine norm_ (a' := ?_) ?_ ?_
                         rotate_left
                         · show Act.put _ (some 32) _ = _
                           simp only [Act.put, zaa, zab, zac, zbu, zbv]
                           rfl
                         refine one_ (i := 3) (N := some 30) #[true, true, true, true, true, true, false, true, true, true, false, false] rfl rfl (one_of HT_.out (by kernel_rfl)) (by decide) (fun K hK => ?_)
                         refine goes_ Try.func69 (by kernel_rfl) rfl #[.slice Ao34 y134.length co34] (by rfl) rfl rfl (taac) ?_
                         with_reducible refine (spec_l1Own.calls _ _ y134 t138 _ ?side1 ?side2 A29.out).mono ?_
                         (case side1 => exact taeu)
                         (case side2 => exact HC137.out)
                         rintro e w40 ⟨v139, rfl, ho0, hb⟩
                         refine ⟨_, rfl, ?_⟩
                         have n0_ := zad (zby (taaq) (zca ho0) hb)
                         have n1_ := zad (zby (tabv) (zca ho0) hb)
                         have n2_ := zad (zbs (zbz (zbz ho0 (zcb (taaq))) (zcb (tabv))) (zbi (taaa)))
                         have n3_ := zad (Kd.C_below (tabs) hb)
                         have n4_ := zad (Kd.C_below (tacl) hb)
                         have n5_ := zad (zbe (taaa) hb)
                         clear HO_3 HO143 HR137 HR150 HB; have HO_3 := n0_; have HO143 := n1_; have HO140 := n2_; have HR137 := n3_; have HR150 := n4_; have HB := n5_; clear n0_ n1_ n2_ n3_ n4_ n5_; (try clear hb); (try clear hb2); (try clear hk); (try clear hi); (try clear ho0); refine hK.out _ _ trivial (fun hHeld => ?_)
                         clear hK K; refine norm_ (a' := ?_) ?_ ?_
                         rotate_left
                         · show Act.put _ (some 30) _ = _
                           simp only [Act.put, zaa, zab, zac, zbu, zbv]
                           rfl
                         exact norm_ (tack) (hCont (v139, v142) _ ⟨(tadp), (tadq), (tadm), (taaa)⟩)
                     rintro ⟨v139, v142⟩ w41 ⟨h0_, h1_, h2_, h3_⟩
                     have n0_ : Aside0 (Kd.R (Kd.int .i64) 3 w41 w.heap.size (fun k_ => some k_ ≠ (v142 : Value).ownBlock ∧ some k_ ≠ (.slice Ao34 x3_1.length co34 : Value).ownBlock) v139 t138) := ⟨h0_⟩
                     have n1_ : Aside0 (Kd.R (Kd.int .i64) 3 w41 w.heap.size (fun k_ => some k_ ≠ (v139 : Value).ownBlock ∧ some k_ ≠ (.slice Ao34 x3_1.length co34 : Value).ownBlock) v142 y141) := ⟨h1_⟩
                     have n2_ : Aside0 (Kd.R (Kd.int .i64) 3 w41 w.heap.size (fun k_ => some k_ ≠ (v139 : Value).ownBlock ∧ some k_ ≠ (v142 : Value).ownBlock) (.slice Ao34 x3_1.length co34) x3_1) := ⟨h2_⟩
                     have n3_ : Aside0 (Below w.heap.size w w41) := ⟨h3_⟩
                     clear HO_3 HB h0_ h1_ h2_ h3_; have HO140 := n0_; have HO143 := n1_; have HO_3 := n2_; have HB := n3_; clear n0_ n1_ n2_ n3_; have hHeld := trivial
                     obtain ⟨Ao43, co43, eo43⟩ := zbt HO143.out
                     (first | subst eo43 | (injection eo43 with f1_ f2_ f3_; have f4_ := f1_.symm; have f5_ := f3_.symm; clear f1_ f2_ f3_; subst f4_; subst f5_))
                     refine norm_ (a' := ?_) ?_ ?_
                     rotate_left
                     · simp only [putAll, Act.put, zaa, zab, zac]
                       rfl
                     refine one_ (i := 6) (N := some 33) #[true, true, true, true, true, true, true, true, true, true, false, false] rfl rfl (one_of HT_.out (by kernel_rfl)) (by decide) (fun K hK => ?_)
                     refine Kd.R_append_rows_step (Kd.int .i64) (w0 := w) w.heap.size (by rfl) (.tmp 30) (.tmp 32) 22 3 (.int .i64 0) 8 rfl Try.underlying22 info3 rfl (by decide) (by omega) v139 t138 y141 _ _ _ (fun k_ => some k_ ≠ (.slice Ao34 x3_1.length co34 : Value).ownBlock ∧ some k_ ≠ (.slice Ao43 y141.length co43 : Value).ownBlock) (fun _ => False) rfl rfl ?aO ?aR (fun _ _ h => h) (fun _ h => h.elim) ?aF ?aB ?aS ?aL ?_
                     (case aR => repeat (first | exact (zbd HO143.out).2.2 | (with_reducible refine zal ?_ _) | (with_reducible refine zam ?_ _) | (with_reducible refine zan ?_)))
                     (case aB => exact (taaa))
                     (case aF => exact (fun k_ hk => ⟨Kd.fresh' (zcb (taaq)) k_ hk, Kd.fresh' (zcb (tabv)) k_ hk⟩))
                     (case aO => exact (by (with_reducible repeat (first | apply zai | apply zaj | apply zak)); exact zbo HO140.out (fun _ hk => ⟨hk.2, hk.1⟩)))
                     (case aS => exact (zbi (taaa)))
                     (case aL => have := LMc30.out; omega)
                     intro v145 w42 ho hb hg hat
                     rw [← Ny144.out] at ho
                     have n0_ := zad (Kd.R_after (ok := (fun k_ => some k_ ≠ (.slice Ao43 y141.length co43 : Value).ownBlock)) (tadn) hg hat)
                     have n1_ := zad (Kd.R_after (ok := (fun k_ => some k_ ≠ (.slice Ao34 x3_1.length co34 : Value).ownBlock)) (by (with_reducible repeat (first | apply zai | apply zaj | apply zak)); exact zbo HO143.out (fun _ hk => ⟨hk.2, hk.1⟩)) hg hat)
                     have n2_ := zad (hb)
                     have n3_ := zad (ho)
                     clear HO_3 HO143 HB HO140; have HO_3 := n0_; have HO143 := n1_; have HB := n2_; have HO146 := n3_; clear n0_ n1_ n2_ n3_ ho hb hg hat; refine hK.out _ _ trivial (fun hHeld => ?_)
                     clear hK K; refine norm_ (a' := ?_) ?_ ?_
                     rotate_left
                     · show Act.put _ (some 33) _ = _
                       simp only [Act.put, zaa, zab, zac, zbu, zbv]
                       rfl
                     refine one_ (i := 10) (N := some 37) #[true, true, true, true, true, true, true, true, true, true, true, false] rfl rfl (one_of HT_.out (by kernel_rfl)) (by decide) (fun K hK => ?_)
                     refine Kd.R_append_rows_step (Kd.int .i64) (w0 := w) w.heap.size (by rfl) (.tmp 33) (.tmp 36) 22 3 (.int .i64 0) 8 rfl Try.underlying22 info3 rfl (by decide) (by omega) v145 y144 y147 _ _ _ (fun k_ => some k_ ≠ (.slice Ao34 x3_1.length co34 : Value).ownBlock ∧ some k_ ≠ (.slice Ao43 y141.length co43 : Value).ownBlock) (fun _ => False) rfl rfl ?aO ?aR (fun _ _ h => h) (fun _ h => h.elim) ?aF ?aB ?aS ?aL ?_
                     (case aR => repeat (first | exact (show Kd.C (Kd.int .i64) _ A37 y147.length y147 from by rw [Ny147.out, KA37.out]; exact Kd.C_drop (m := (x6_2 : Int).toNat) (c := co34) ((zbd HO_3.out).2.2) KL37.out ((zbd HO_3.out).2.1)) | (with_reducible refine zal ?_ _) | (with_reducible refine zam ?_ _) | (with_reducible refine zan ?_)))
                     (case aB => exact (taaa))
                     (case aF => exact (fun k_ hk => ⟨Kd.fresh' (zcb (taaq)) k_ hk, Kd.fresh' (zcb (tabv)) k_ hk⟩))
                     (case aO => exact (by (with_reducible repeat (first | apply zai | apply zaj | apply zak)); exact HO146.out))
                     (case aS => exact (zbi (taaa)))
                     (case aL => have := LMc33.out; omega)
                     intro v152 w44 ho hb hg hat
                     rw [← Ny151.out] at ho
                     have n0_ := zad (Kd.R_after (ok := (fun k_ => some k_ ≠ (.slice Ao43 y141.length co43 : Value).ownBlock)) (taaq) hg hat)
                     have n1_ := zad (Kd.R_after (ok := (fun k_ => some k_ ≠ (.slice Ao34 x3_1.length co34 : Value).ownBlock)) (tabv) hg hat)
                     have n2_ := zad (hb)
                     have n3_ := zad (ho)
                     clear HO_3 HO143 HB HO146; have HO_3 := n0_; have HO143 := n1_; have HB := n2_; have HO153 := n3_; clear n0_ n1_ n2_ n3_ ho hb hg hat; refine hK.out _ _ trivial (fun hHeld => ?_)
                     clear hK K; refine norm_ (a' := ?_) ?_ ?_
                     rotate_left
                     · show Act.put _ (some 37) _ = _
                       simp only [Act.put, zaa, zab, zac, zbu, zbv]
                       rfl
                     refine pure_ (i := 11) (N := some 3) (v := ?_) (a' := ?_) #[true, true, true, true, true, true, true, true, true, true, true, true] rfl rfl (zbw HT_.out (by kernel_rfl)) (fun _ _ _ h => h) (Or.inl ⟨by rfl, ?_⟩) ?_ ?_
                     rotate_left
                     · intro w'
                       go_simp; with_reducible rfl
                     rotate_left
                     · simp only [Act.put, zaa, zab, zac, zbu, zbv]
                       rfl
                     refine done_ (done_of HT_.out (by kernel_rfl)) ?_
                     try go_wp2
                     go_roundg k2
                     case measure => have := HK1.out; have := HK2.out; omega
                     case rel => exact ⟨(y151), (wrap64 (x9_1 + 1)), (taad), H', ⟨tabj⟩, ⟨by (with_reducible repeat (first | apply zai | apply zaj | apply zak)); exact zbo HO153.out (fun _ hk => trivial)⟩, ⟨taaa⟩⟩
                   · rw [if_neg c33] at H
                     exact absurd H (taah)
                 · rw [if_neg c30] at H
                   exact absurd H (taah)
               · rw [if_neg c28] at H
                 exact absurd H (taah)
             · rw [if_neg c27] at H
               exact absurd H (taah)
       · rw [if_neg c4] at H
         exact absurd H (taah)
     · rw [if_neg c3] at H
       exact absurd H (taah)
   · rw [if_neg c2] at H
     have c2b0 : decide (x9_1 < (l0.length : Int)) = false := zbh c2
     clear c2; obtain rfl := zbc H
     go_wp2
     go_ret
     exact ⟨_, taam, taaq, taaa⟩
def spec_liPartial.f (k : Nat) (l0 : List Int) : Option (List Int) := (spec_liRank.f k l0).bind fun t177 => ((spec_liSums.f k t177).bind fun t180 => (some t180))
theorem spec_liPartial.calls (k : Nat) (A0 : Option Addr) (c0 : Nat) (l0 : List Int) (r : List Int) (w : World) (hr0 : Kd.C (Kd.int .i64) w A0 l0.length l0) (hc0 : l0.length ≤ c0) (h : spec_liPartial.f k l0 = some r) :
 Calls Try.prog 57 #[.slice A0 l0.length c0] w fun e w' => ∃ v0_ : Value, e = .returned (v0_) ∧ Kd.R (Kd.int .i64) 3 w' w.heap.size (fun _ => True) v0_ r ∧ Below w.heap.size w w' := by
 have HR0 := zad hr0; have HC0 := zad hc0; clear hr0 hc0; have HB := zad (Below.refl w.heap.size w)
 have H : ((spec_liRank.f k l0).bind fun t177 => ((spec_liSums.f k t177).bind fun t180 => (some t180))) = some r := h
 clear h; replace H := zay.mp H; obtain ⟨t177, A20, H⟩ := H
 replace H : ((spec_liSums.f k t177).bind fun t180 => (some t180)) = some r := H
 have A2 := zad A20; clear A20; replace H := zay.mp H; obtain ⟨t180, A30, H⟩ := H
 replace H : (some t180) = some r := H
 have A3 := zad A30; clear A30; obtain rfl := zbc H
 go_enter Try.func57, Try.ntmps57
 go_wp2_with (first | ((with_reducible refine zbf (f := 34) rfl ?_); refine zbl (some 4) rfl rfl Try.func34 (by kernel_rfl) rfl #[.slice A0 l0.length c0] rfl (taac) ?_; (with_reducible refine (spec_liRank.calls k _ _ l0 t177 _ ?side1 ?side2 A2.out).mono ?_); (case side1 => repeat (first | exact HR0.out | (with_reducible refine zal ?_ _) | (with_reducible refine zam ?_ _) | (with_reducible refine zan ?_))); (case side2 => exact HC0.out); rintro e w4 ⟨v178, rfl, ho0, hb⟩; refine ⟨_, rfl, ?_⟩; have n0_ := zad (zbs ho0 (zbi (taaa))); have n1_ := zad (zbe (taaa) hb); clear HB; have HO179 := n0_; have HB := n1_; clear n0_ n1_; (try clear hb); (try clear hb2); (try clear hk); (try clear hi); (try clear ho0); obtain ⟨Ao5, co5, eo5⟩ := zbt HO179.out; subst eo5) | ((with_reducible refine zbf (f := 79) rfl ?_); refine zbl (some 5) rfl rfl Try.func79 (by kernel_rfl) rfl #[.slice Ao5 t177.length co5] rfl (taac) ?_; (with_reducible refine (spec_liSums.calls k _ _ t177 t180 _ ?side1 ?side2 A3.out).mono ?_); (case side1 => repeat (first | exact (zbd HO179.out).2.2 | (with_reducible refine zal ?_ _) | (with_reducible refine zam ?_ _) | (with_reducible refine zan ?_))); (case side2 => exact (zbd HO179.out).2.1); rintro e w6 ⟨v181, rfl, ho0, hb⟩; refine ⟨_, rfl, ?_⟩; have n0_ := zad (zby (tadr) (zca ho0) hb); have n1_ := zad (zbs (zbz ho0 (zcb (tadr))) (zbi (taaa))); have n2_ := zad (zbe (taaa) hb); clear HO179 HB; have HO179 := n0_; have HO182 := n1_; have HB := n2_; clear n0_ n1_ n2_; (try clear hb); (try clear hb2); (try clear hk); (try clear hi); (try clear ho0)))
 go_ret
 exact ⟨_, taam, by (with_reducible repeat (first | apply zai | apply zaj | apply zak)); exact zbo HO182.out (fun _ hk => trivial), taaa⟩
mutual
def spec_MeetOf.j0 : Nat → List Int → List Int → Bool → Option (List Int × Bool)
 | 0, _, _, _ => none
 | k + 1, x0, x1, x23 => if x23 = true then (some (([] : List Int), false)) else ((spec_liPartial.f k x0).bind fun t526 => ((spec_liPartial.f k x1).bind fun t529 => (spec_MeetOf.l0 k t526 t529 ([] : List Int) (t526.length : Int) 0)))
def spec_MeetOf.l0 : Nat → List Int → List Int → List Int → Int → Int → Option (List Int × Bool)
 | 0, _, _, _, _, _ => none
 | k + 1, x6, x7, x8, x29, x30 => if x30 < x29 then (if 0 ≤ x30 then (if x30 < (x6.length : Int) then (if x30 < (x7.length : Int) then ((spec_l1Least.f (rd x6 x30) (rd x7 x30)).bind fun t534 => (if x8.length < 17592186044416 then (spec_MeetOf.l0 k x6 x7 (x8 ++ [t534]) x29 (wrap64 (x30 + 1))) else (none))) else (none)) else (none)) else (none)) else ((spec_liFrom.f k x8).bind fun t538 => (some (t538, true)))
end
def spec_MeetOf.f (k : Nat) (l0 : List Int) (l1 : List Int) : Option (List Int × Bool) := (spec_liGood.f k l0).bind fun t523 => (if t523 = true then ((spec_liGood.f k l1).bind fun t524 => (if t524 = true then ((spec_liFit.f k l0 l1).bind fun t525 => (spec_MeetOf.j0 k l0 l1 (!t525))) else (spec_MeetOf.j0 k l0 l1 true))) else (spec_MeetOf.j0 k l0 l1 true))
def spec_MeetOf.T8 : Bool × List (List Nat × List Nat) := (true, [([], []), ([], []), ([], []), ([1, 2], [1, 2]), ([3], [3]), ([], []), ([], []), ([5, 6], [5, 6]), ([7], [7]), ([4, 8], [4, 8]), ([9], [9]), ([0, 10, 9], [0, 10]), ([11, 11, 0, 1, 2, 3, 4, 5, 6, 7, 8, 9, 10, 11], [0, 11])])
def spec_MeetOf.B8 : List Nat := [0, 0, 0, 6, 14, 0, 0, 96, 224, 510, 1022, 2047, 4095]
theorem spec_MeetOf.tab8 : rtab .any (opsOf Try.f19 8) = spec_MeetOf.T8 := by kernel_rfl
theorem spec_MeetOf.bits8 : waitsOk spec_MeetOf.T8.2 spec_MeetOf.B8 = true := by kernel_rfl
theorem spec_MeetOf.calls (k : Nat) (A0 : Option Addr) (c0 : Nat) (l0 : List Int) (A1 : Option Addr) (c1 : Nat) (l1 : List Int) (r1 : List Int) (r2 : Bool) (w : World) (hr0 : Kd.C (Kd.int .i64) w A0 l0.length l0) (hc0 : l0.length ≤ c0) (hr1 : Kd.C (Kd.int .i64) w A1 l1.length l1) (hc1 : l1.length ≤ c1) (h : spec_MeetOf.f k l0 l1 = some (r1, r2)) :
 Calls Try.prog 19 #[.slice A0 l0.length c0, .slice A1 l1.length c1] w fun e w' => ∃ v0_ : Value, e = .returned (.tuple #[v0_, .bool r2]) ∧ Kd.R (Kd.int .i64) 3 w' w.heap.size (fun _ => True) v0_ r1 ∧ Below w.heap.size w w' := by
 have HR0 := zad hr0; have HC0 := zad hc0; clear hr0 hc0; have HR1 := zad hr1; have HC1 := zad hc1; clear hr1 hc1; have HB := zad (Below.refl w.heap.size w)
 have H : ((spec_liGood.f k l0).bind fun t523 => (if t523 = true then ((spec_liGood.f k l1).bind fun t524 => (if t524 = true then ((spec_liFit.f k l0 l1).bind fun t525 => (spec_MeetOf.j0 k l0 l1 (!t525))) else (spec_MeetOf.j0 k l0 l1 true))) else (spec_MeetOf.j0 k l0 l1 true))) = some (r1, r2) := h
 clear h; have HC3 := zad H; clear H; go_enter Try.func19, Try.ntmps19
 go_upto_region 1 with (fail)
 go_cut [23] (fun v23 wc => ∃ (kq : Nat) (x23_2 : Bool), v23 = .bool x23_2 ∧ Aside0 (spec_MeetOf.j0 kq l0 l1 x23_2 = some (r1, r2)) ∧ Aside0 (kq ≤ k) ∧ Aside0 (Below w.heap.size w wc))
 case first =>
  have H := HC3.out
  clear HC3; replace H := zay.mp H; obtain ⟨t523, A40, H⟩ := H
  replace H : (if t523 = true then ((spec_liGood.f k l1).bind fun t524 => (if t524 = true then ((spec_liFit.f k l0 l1).bind fun t525 => (spec_MeetOf.j0 k l0 l1 (!t525))) else (spec_MeetOf.j0 k l0 l1 true))) else (spec_MeetOf.j0 k l0 l1 true)) = some (r1, r2) := H
  have A4 := zad A40; clear A40; by_cases c5 : t523 = true
  · subst c5
    have H1 : ((spec_liGood.f k l1).bind fun t524 => (if t524 = true then ((spec_liFit.f k l0 l1).bind fun t525 => (spec_MeetOf.j0 k l0 l1 (!t525))) else (spec_MeetOf.j0 k l0 l1 true))) = some (r1, r2) := by rw [if_pos rfl] at H; exact H
    clear H; have H := H1; clear H1; replace H := zay.mp H; obtain ⟨t524, A60, H⟩ := H
    replace H : (if t524 = true then ((spec_liFit.f k l0 l1).bind fun t525 => (spec_MeetOf.j0 k l0 l1 (!t525))) else (spec_MeetOf.j0 k l0 l1 true)) = some (r1, r2) := H
    have A6 := zad A60; clear A60; by_cases c7 : t524 = true
    · subst c7
      have H1 : ((spec_liFit.f k l0 l1).bind fun t525 => (spec_MeetOf.j0 k l0 l1 (!t525))) = some (r1, r2) := by rw [if_pos rfl] at H; exact H
      clear H; have H := H1; clear H1; replace H := zay.mp H; obtain ⟨t525, A80, H⟩ := H
      replace H : (spec_MeetOf.j0 k l0 l1 (!t525)) = some (r1, r2) := H
      have A8 := zad A80; clear A80; have H' := zad H
      clear H; go_wp2_with (first | ((with_reducible refine zbf (f := 31) rfl ?_); refine zbl (some 11) rfl rfl Try.func31 (by kernel_rfl) rfl #[.slice A0 l0.length c0] rfl (taac) ?_; (with_reducible refine (spec_liGood.calls k _ _ l0 true _ ?side1 ?side2 A4.out).mono ?_); (case side1 => repeat (first | exact (Kd.C_below HR0.out HB.out) | (with_reducible refine zal ?_ _) | (with_reducible refine zam ?_ _) | (with_reducible refine zan ?_))); (case side2 => exact HC0.out); rintro e w' ⟨rfl, ⟨nd, rfl⟩⟩; refine ⟨_, rfl, ?_⟩) | (go_at_call 31; (with_reducible refine (spec_liGood.calls k _ _ l1 true _ ?side1 ?side2 A6.out).mono ?_); (case side1 => repeat (first | exact (Kd.C_below HR1.out (taaa)) | (with_reducible refine zal ?_ _) | (with_reducible refine zam ?_ _) | (with_reducible refine zan ?_))); (case side2 => exact HC1.out); rintro e w' ⟨rfl, ⟨nd, rfl⟩⟩) | (go_at_call 54; (with_reducible refine (spec_liFit.calls k _ _ l0 _ _ l1 t525 _ ?side1 ?side2 ?side3 ?side4 A8.out).mono ?_); (case side1 => repeat (first | exact (Kd.C_below HR0.out (taaa)) | (with_reducible refine zal ?_ _) | (with_reducible refine zam ?_ _) | (with_reducible refine zan ?_))); (case side2 => exact HC0.out); (case side3 => repeat (first | exact (Kd.C_below HR1.out (taaa)) | (with_reducible refine zal ?_ _) | (with_reducible refine zam ?_ _) | (with_reducible refine zan ?_))); (case side4 => exact HC1.out); rintro e w' ⟨rfl, ⟨nd, rfl⟩⟩))
      go_meet
      case rel => exact ⟨_, (!t525), (taad), H', ⟨taay⟩, ⟨taaa⟩⟩
    · replace c7 := zbg.mpr c7
      subst c7; have H1 : (spec_MeetOf.j0 k l0 l1 true) = some (r1, r2) := by rw [if_neg (show ¬ (false = true) by decide)] at H; exact H
      clear H; have H := H1; clear H1; have H' := zad H
      clear H; go_wp2_with (first | ((with_reducible refine zbf (f := 31) rfl ?_); refine zbl (some 11) rfl rfl Try.func31 (by kernel_rfl) rfl #[.slice A0 l0.length c0] rfl (taac) ?_; (with_reducible refine (spec_liGood.calls k _ _ l0 true _ ?side1 ?side2 A4.out).mono ?_); (case side1 => repeat (first | exact (Kd.C_below HR0.out HB.out) | (with_reducible refine zal ?_ _) | (with_reducible refine zam ?_ _) | (with_reducible refine zan ?_))); (case side2 => exact HC0.out); rintro e w' ⟨rfl, ⟨nd, rfl⟩⟩; refine ⟨_, rfl, ?_⟩) | (go_at_call 31; (with_reducible refine (spec_liGood.calls k _ _ l1 false _ ?side1 ?side2 A6.out).mono ?_); (case side1 => repeat (first | exact (Kd.C_below HR1.out (taaa)) | (with_reducible refine zal ?_ _) | (with_reducible refine zam ?_ _) | (with_reducible refine zan ?_))); (case side2 => exact HC1.out); rintro e w' ⟨rfl, ⟨nd, rfl⟩⟩))
      go_meet
      case rel => exact ⟨_, (true), (taad), H', ⟨taay⟩, ⟨taaa⟩⟩
  · replace c5 := zbg.mpr c5
    subst c5; have H1 : (spec_MeetOf.j0 k l0 l1 true) = some (r1, r2) := by rw [if_neg (show ¬ (false = true) by decide)] at H; exact H
    clear H; have H := H1; clear H1; have H' := zad H
    clear H; go_wp2_with (first | ((with_reducible refine zbf (f := 31) rfl ?_); refine zbl (some 11) rfl rfl Try.func31 (by kernel_rfl) rfl #[.slice A0 l0.length c0] rfl (taac) ?_; (with_reducible refine (spec_liGood.calls k _ _ l0 false _ ?side1 ?side2 A4.out).mono ?_); (case side1 => exact taep); (case side2 => exact HC0.out); rintro e w' ⟨rfl, ⟨nd, rfl⟩⟩; refine ⟨_, rfl, ?_⟩))
    go_meet
    case rel => exact ⟨_, (true), (taad), H', ⟨taay⟩, ⟨taaa⟩⟩
 case rest =>
  clear HC3; try clear c1
  try clear p2
  try clear c3
  try clear c5
  try clear c7
  obtain ⟨kq, x23_2, rfl, HA, HJ2, HB⟩ := hcut
  cases kq with
  | zero => exact absurd HA.out (by simp [spec_MeetOf.j0])
  | succ kj2 =>
   have H := HA.out
   clear HA; simp only [spec_MeetOf.j0] at H
   by_cases c9 : x23_2 = true
   · subst c9
     have H1 : (some (([] : List Int), false)) = some (r1, r2) := by rw [if_pos rfl] at H; exact H
     clear H; have H := H1; clear H1; simp only [zbj, zbn] at H
     obtain ⟨rfl, rfl⟩ := H
     go_wp2
     go_ret2
     exact ⟨_, taam, taaz, taaa⟩
   · replace c9 := zbg.mpr c9
     subst c9; have H1 : ((spec_liPartial.f kj2 l0).bind fun t526 => ((spec_liPartial.f kj2 l1).bind fun t529 => (spec_MeetOf.l0 kj2 t526 t529 ([] : List Int) (t526.length : Int) 0))) = some (r1, r2) := by rw [if_neg (show ¬ (false = true) by decide)] at H; exact H
     clear H; have H := H1; clear H1; replace H := zay.mp H; obtain ⟨t526, A100, H⟩ := H
     replace H : ((spec_liPartial.f kj2 l1).bind fun t529 => (spec_MeetOf.l0 kj2 t526 t529 ([] : List Int) (t526.length : Int) 0)) = some (r1, r2) := H
     have A10 := zad A100; clear A100; replace H := zay.mp H; obtain ⟨t529, A110, H⟩ := H
     replace H : (spec_MeetOf.l0 kj2 t526 t529 ([] : List Int) (t526.length : Int) 0) = some (r1, r2) := H
     have A11 := zad A110; clear A110; have H' := zad H
     clear H; go_wp2_with (first | ((with_reducible refine zbf (f := 57) rfl ?_); refine zbl (some 25) rfl rfl Try.func57 (by kernel_rfl) rfl #[.slice A0 l0.length c0] rfl (taac) ?_; (with_reducible refine (spec_liPartial.calls kj2 _ _ l0 t526 _ ?side1 ?side2 A10.out).mono ?_); (case side1 => repeat (first | exact (Kd.C_below HR0.out HB.out) | (with_reducible refine zal ?_ _) | (with_reducible refine zam ?_ _) | (with_reducible refine zan ?_))); (case side2 => exact HC0.out); rintro e w12 ⟨v527, rfl, ho0, hb⟩; refine ⟨_, rfl, ?_⟩; have n0_ := zad (zbs ho0 (zbi (taaa))); have n1_ := zad (zbe (taaa) hb); clear HB; have HO528 := n0_; have HB := n1_; clear n0_ n1_; (try clear hb); (try clear hb2); (try clear hk); (try clear hi); (try clear ho0)) | ((with_reducible refine zbf (f := 57) rfl ?_); refine zbl (some 27) rfl rfl Try.func57 (by kernel_rfl) rfl #[.slice A1 l1.length c1] rfl (taac) ?_; (with_reducible refine (spec_liPartial.calls kj2 _ _ l1 t529 _ ?side1 ?side2 A11.out).mono ?_); (case side1 => repeat (first | exact (Kd.C_below HR1.out HB.out) | (with_reducible refine zal ?_ _) | (with_reducible refine zam ?_ _) | (with_reducible refine zan ?_))); (case side2 => exact HC1.out); rintro e w13 ⟨v530, rfl, ho0, hb⟩; refine ⟨_, rfl, ?_⟩; have n0_ := zad (zby (tads) (zca ho0) hb); have n1_ := zad (zbs (zbz ho0 (zcb (tads))) (zbi (taaa))); have n2_ := zad (zbe (taaa) hb); clear HO528 HB; have HO528 := n0_; have HO531 := n1_; have HB := n2_; clear n0_ n1_ n2_; (try clear hb); (try clear hb2); (try clear hk); (try clear hi); (try clear ho0); obtain ⟨Ao14, co14, eo14⟩ := zbt HO528.out; subst eo14))
     go_loopg [8, 30] kj2 (fun kq v8 v30 w' => ∃ (x8_2 : List Int) (x30_2 : Int), v30 = .int .i64 x30_2 ∧ Aside0 (spec_MeetOf.l0 kq t526 t529 x8_2 (t526.length : Int) x30_2 = some (r1, r2)) ∧ Aside0 (kq ≤ kj2) ∧ Aside0 (Kd.R (Kd.int .i64) 3 w' w.heap.size (fun k_ => some k_ ≠ (v530 : Value).ownBlock ∧ some k_ ≠ (v8 : Value).ownBlock) (.slice Ao14 t526.length co14) t526) ∧ Aside0 (Kd.R (Kd.int .i64) 3 w' w.heap.size (fun k_ => some k_ ≠ ((.slice Ao14 t526.length co14) : Value).ownBlock ∧ some k_ ≠ (v8 : Value).ownBlock) v530 t529) ∧ Aside0 (Kd.R (Kd.int .i64) 3 w' w.heap.size (fun k_ => some k_ ≠ ((.slice Ao14 t526.length co14) : Value).ownBlock ∧ some k_ ≠ (v530 : Value).ownBlock) v8 x8_2) ∧ Aside0 (Below w.heap.size w w'))
     case atStart => exact ⟨(([] : List Int)), (0), (taad), H', ⟨zcc _⟩, ⟨by (with_reducible repeat (first | apply zai | apply zaj | apply zak)); exact zbo HO528.out (fun _ hk => ⟨hk.2, (tach)⟩)⟩, ⟨by (with_reducible repeat (first | apply zai | apply zaj | apply zak)); exact zbo HO531.out (fun _ hk => ⟨hk.2, (tach)⟩)⟩, ⟨taaz⟩, ⟨taaa⟩⟩
     case round =>
      clear H'
      try clear c1
      try clear p2
      try clear c3
      try clear c5
      try clear c7
      try clear c9
      try clear p2
      obtain ⟨x8_2, x30_2, rfl, HA, HK2, HO_6, HO_7, HO_8, HB⟩ := hrel
      cases gk with
      | zero => exact absurd HA.out (by simp [spec_MeetOf.l0])
      | succ k2 =>
       have H := HA.out
       clear HA; simp only [spec_MeetOf.l0] at H
       by_cases c15 : x30_2 < (t526.length : Int)
       · rw [if_pos c15] at H
         have c15b0 : decide (x30_2 < (t526.length : Int)) = true := zba c15
         clear c15; by_cases c16 : 0 ≤ x30_2
         · rw [if_pos c16] at H
           have c16b0 : decide (0 ≤ x30_2) = true := zba c16
           clear c16; by_cases c17 : x30_2 < (t526.length : Int)
           · rw [if_pos c17] at H
             have c17b0 : decide (x30_2 < (t526.length : Int)) = true := zba c17
             clear c17; by_cases c18 : x30_2 < (t529.length : Int)
             · rw [if_pos c18] at H
               have c18b0 : decide (x30_2 < (t529.length : Int)) = true := zba c18
               clear c18; replace H := zay.mp H; obtain ⟨t534, A190, H⟩ := H
               replace H : (if x8_2.length < 17592186044416 then (spec_MeetOf.l0 k2 t526 t529 (x8_2 ++ [t534]) (t526.length : Int) (wrap64 (x30_2 + 1))) else (none)) = some (r1, r2) := H
               have A19 := zad A190; clear A190; by_cases c20 : x8_2.length < 17592186044416
               · rw [if_pos c20] at H
                 have LMc20 := zad c20; clear c20; obtain ⟨y535, hy535⟩ : ∃ y_ : List Int, y_ = (x8_2 ++ [t534]) := ⟨_, rfl⟩
                 replace H : (spec_MeetOf.l0 k2 t526 t529 y535 (t526.length : Int) (wrap64 (x30_2 + 1))) = some (r1, r2) := by first | (rw [hy535]; with_reducible exact H) | (have H2_ := (zbb _ _).symm.trans H; rw [hy535]; with_reducible exact H2_) | (have H2_ := (zbb _ _).symm.trans H; with_reducible exact H2_) | with_reducible exact H | (rw [hy535]; exact H) | exact H
                 have Ny535 := zad hy535; clear hy535; have H' := zad H
                 clear H; try go_wp2
                 have n0_ := zad (zak HO_6.out)
                 have n1_ := zad (zak HO_7.out)
                 have n2_ := zad (zak HO_8.out)
                 have n3_ := zad (zaf HB.out)
                 clear HO_6 HO_7 HO_8 HB; have HO_6 := n0_; have HO_7 := n1_; have HO_8 := n2_; have HB := n3_; clear n0_ n1_ n2_ n3_; have p532 : 0 ≤ (x30_2 : Int) := zas (taab)
                 have q532 : x30_2 < (t526.length : Int) := zas (taab)
                 obtain ⟨ad532, e532, hx532_0⟩ := zbx (zbd HO_6.out).2.2 x30_2 p532 q532
                 cases e532
                 replace p532 := eq_true p532
                 replace q532 := eq_true q532
                 obtain ⟨Ao22, co22, eo22⟩ := zbt HO_7.out
                 (first | subst eo22 | (injection eo22 with f1_ f2_ f3_; have f4_ := f1_.symm; have f5_ := f3_.symm; clear f1_ f2_ f3_; subst f4_; subst f5_))
                 have p533 : 0 ≤ (x30_2 : Int) := zas (taab)
                 have q533 : x30_2 < (t529.length : Int) := zas (taab)
                 obtain ⟨ad533, e533, hx533_0⟩ := zbx (zbd HO_7.out).2.2 x30_2 p533 q533
                 cases e533
                 replace p533 := eq_true p533
                 replace q533 := eq_true q533
                 refine start_ (n := 13) (S := fun w' => w'.cell? (ad532.add (x30_2).toNat) = some (.int .i64 (rd t526 x30_2)) ∧ w'.cell? (ad533.add (x30_2).toNat) = some (.int .i64 (rd t529 x30_2))) (ds := [10, 11]) #[false, false, false, false, false, false, false, false, false, false, false, false, false] (by kernel_rfl) rfl rfl ⟨hx532_0, hx533_0⟩ (fun hHeld => ?_); refine with_tabW spec_MeetOf.tab8 spec_MeetOf.bits8 (fun HT_ HW_ => ?_)
                 generalize wr.drew = w21 at HO_6 HO_7 HO_8 HB hx532_0 hx533_0 hHeld ⊢
                 refine pure_ (i := 0) (N := some 33) (v := ?_) (a' := ?_) #[true, false, false, false, false, false, false, false, false, false, false, false, false] rfl rfl (zbw HT_.out (by kernel_rfl)) (fun _ _ _ h => h) (Or.inl ⟨by rfl, ?_⟩) ?_ ?_
                 rotate_left
                 · intro w'
                   go_simp; with_reducible rfl
                 rotate_left
                 · simp only [Act.put, zaa, zab, zac, zbu, zbv]
                   rfl
                 refine pure_ (i := 1) (N := some 34) (v := ?_) (a' := ?_) #[true, true, false, false, false, false, false, false, false, false, false, false, false] rfl rfl (zbw HT_.out (by kernel_rfl)) (fun _ _ _ h => h) (Or.inl ⟨by rfl, ?_⟩) ?_ ?_
                 rotate_left
                 · intro w'
                   go_simp; with_reducible rfl
                 rotate_left
                 · simp only [Act.put, zaa, zab, zac, zbu, zbv]
                   rfl
                 refine pure_ (i := 2) (N := some 35) (v := ?_) (a' := ?_) #[true, true, true, false, false, false, false, false, false, false, false, false, false] rfl rfl (zbw HT_.out (by kernel_rfl)) (fun _ _ _ h => h) (Or.inl ⟨by rfl, ?_⟩) ?_ ?_
                 rotate_left
                 · intro w'
                   go_simp; with_reducible rfl
                 rotate_left
                 · simp only [Act.put, zaa, zab, zac, zbu, zbv]
                   rfl
                 refine pure_ (i := 3) (N := some 36) (v := ?_) (a' := ?_) #[true, true, true, true, false, false, false, false, false, false, false, false, false] rfl rfl (zbw HT_.out (by kernel_rfl)) (fun _ _ _ h => h) (Or.inl ⟨by rfl, ?_⟩) ?_ ?_
                 rotate_left
                 · intro w'
                   go_simp; with_reducible rfl
                 rotate_left
                 · simp only [Act.put, zaa, zab, zac, zbu, zbv]
                   rfl
                 refine pure_ (i := 5) (N := some 38) (v := ?_) (a' := ?_) #[true, true, true, true, false, true, false, false, false, false, false, false, false] rfl rfl (zbw HT_.out (by kernel_rfl)) (fun _ _ _ h => h) (Or.inl ⟨by rfl, ?_⟩) ?_ ?_
                 rotate_left
                 · intro w'
                   go_simp; with_reducible rfl
                 rotate_left
                 · simp only [Act.put, zaa, zab, zac, zbu, zbv]
                   rfl
                 refine pure_ (i := 6) (N := some 39) (v := ?_) (a' := ?_) #[true, true, true, true, false, true, true, false, false, false, false, false, false] rfl rfl (zbw HT_.out (by kernel_rfl)) (fun _ _ _ h => h) (Or.inl ⟨by rfl, ?_⟩) ?_ ?_
                 rotate_left
                 · intro w'
                   go_simp; with_reducible rfl
                 rotate_left
                 · simp only [Act.put, zaa, zab, zac, zbu, zbv]
                   rfl
                 refine pure_ (i := 7) (N := some 40) (v := ?_) (a' := ?_) #[true, true, true, true, false, true, true, true, false, false, false, false, false] rfl rfl (zbw HT_.out (by kernel_rfl)) (fun _ _ _ h => h) (Or.inl ⟨by rfl, ?_⟩) ?_ ?_
                 rotate_left
                 · intro w'
                   go_simp; with_reducible rfl
                 rotate_left
                 · simp only [Act.put, zaa, zab, zac, zbu, zbv]
                   rfl
                 refine take_ (i := 4) (N := some 37) (v := ?_) (a' := ?_) #[true, true, true, true, true, true, true, true, false, false, false, false, false] rfl rfl (take_ofW HT_.out HW_.out (by kernel_rfl)) (fun _ _ _ h => h) (Or.inl ⟨by rfl, ?_⟩) hHeld ?_ ?_
                 rotate_left
                 · rintro w' ⟨s0, s1⟩
                   go_simp; with_reducible rfl
                 rotate_left
                 · simp only [Act.put, zaa, zab, zac, zbu, zbv]
                   rfl
                 refine take_ (i := 8) (N := some 41) (v := ?_) (a' := ?_) #[true, true, true, true, true, true, true, true, true, false, false, false, false] rfl rfl (take_ofW HT_.out HW_.out (by kernel_rfl)) (fun _ _ _ h => h) (Or.inl ⟨by rfl, ?_⟩) hHeld ?_ ?_
                 rotate_left
                 · rintro w' ⟨s0, s1⟩
                   go_simp; with_reducible rfl
                 rotate_left
                 · simp only [Act.put, zaa, zab, zac, zbu, zbv]
                   rfl
                 refine one_ (i := 9) (N := some 42) #[true, true, true, true, true, true, true, true, true, true, false, false, false] rfl rfl (one_of HT_.out (by kernel_rfl)) (by decide) (fun K hK => ?_)
                 refine goes_ Try.func48 (by kernel_rfl) rfl #[.int .i64 (rd t526 x30_2), .int .i64 (rd t529 x30_2)] (by rfl) rfl rfl (taac) ?_
                 with_reducible refine (spec_l1Least.calls (rd t526 x30_2) (rd t529 x30_2) t534 _ A19.out).mono ?_
                 rintro e w' ⟨rfl, ⟨nd, rfl⟩⟩
                 refine ⟨_, rfl, ?_⟩
                 refine hK.out _ _ ⟨hHeld.1, hHeld.2⟩ (fun hHeld => ?_)
                 clear hK K; refine norm_ (a' := ?_) ?_ ?_
                 rotate_left
                 · show Act.put _ (some 42) _ = _
                   simp only [Act.put, zaa, zab, zac, zbu, zbv]
                   rfl
                 refine last_ (i := 10) (N := some 43) #[true, true, true, true, true, true, true, true, true, true, true, false, false] rfl rfl (one_of HT_.out (by kernel_rfl)) (by decide) (fun K hK => ?_)
                 refine value_ (w1 := ?_) (v := ?_) (by rfl) rfl ?_ ?_
                 rotate_left 2
                 · go_simp
                   constructor
                   · rfl
                   · rfl
                 refine hK.out _ _ ?_
                 clear hK K; refine norm_ (a' := ?_) ?_ ?_
                 rotate_left
                 · show Act.put _ (some 43) _ = _
                   simp only [Act.put, zaa, zab, zac, zbu, zbv]
                   rfl
                 refine last_ (i := 11) (N := some 44) #[true, true, true, true, true, true, true, true, true, true, true, true, false] rfl rfl (one_of HT_.out (by kernel_rfl)) (by decide) (fun K hK => ?_)
                 refine Kd.R_append_step (Kd.int .i64) (w0 := w) w.heap.size (by rfl) (.tmp 33) (.tmp 43) 22 3 (.int .i64 0) 8 rfl Try.underlying22 info3 rfl (by decide) (by omega) u8 x8_2 t534 [.int .i64 t534] (fun k_ => some k_ ≠ (.slice (some ad532) t526.length co14 : Value).ownBlock ∧ some k_ ≠ (.slice (some ad533) t529.length co22 : Value).ownBlock) (fun _ => False) rfl rfl ?aP (fun _ hk => hk.elim) ?aF ?aO ?aB ?aS ?aL ?_
                 (case aP => exact rfl)
                 (case aB => exact (taaa))
                 (case aF => exact (fun k_ hk => ⟨Kd.fresh' (zcb (taae)) k_ hk, Kd.fresh' (zcb (taag)) k_ hk⟩))
                 (case aO => exact (tacv))
                 (case aS => exact (zbi (taaa)))
                 (case aL => have := LMc20.out; omega)
                 intro v536 w23 ho hb hg hat
                 rw [← Ny535.out] at ho
                 have n0_ := zad (Kd.R_after (ok := (fun k_ => some k_ ≠ (.slice (some ad533) t529.length co22 : Value).ownBlock)) (taae) hg hat)
                 have n1_ := zad (Kd.R_after (ok := (fun k_ => some k_ ≠ (.slice (some ad532) t526.length co14 : Value).ownBlock)) (taag) hg hat)
                 have n2_ := zad (hb)
                 have n3_ := zad (ho)
                 clear HO_6 HO_7 HB HO_8; have HO_6 := n0_; have HO_7 := n1_; have HB := n2_; have HO537 := n3_; clear n0_ n1_ n2_ n3_ ho hb hg hat; refine hK.out _ _ ?_
                 clear hK K; refine norm_ (a' := ?_) ?_ ?_
                 rotate_left
                 · show Act.put _ (some 44) _ = _
                   simp only [Act.put, zaa, zab, zac, zbu, zbv]
                   rfl
                 refine pure_ (i := 12) (N := some 8) (v := ?_) (a' := ?_) #[true, true, true, true, true, true, true, true, true, true, true, true, true] rfl rfl (zbw HT_.out (by kernel_rfl)) (fun _ _ _ h => h) (Or.inl ⟨by rfl, ?_⟩) ?_ ?_
                 rotate_left
                 · intro w'
                   go_simp; with_reducible rfl
                 rotate_left
                 · simp only [Act.put, zaa, zab, zac, zbu, zbv]
                   rfl
                 refine done_ (done_of HT_.out (by kernel_rfl)) ?_
                 try go_wp2
                 go_roundg k2
                 case measure => have := HJ2.out; have := HK2.out; omega
                 case rel => exact ⟨(y535), (wrap64 (x30_2 + 1)), (taad), H', ⟨by have := HJ2.out; have := HK2.out; omega⟩, ⟨taae⟩, ⟨taag⟩, ⟨by (with_reducible repeat (first | apply zai | apply zaj | apply zak)); exact HO537.out⟩, ⟨taaa⟩⟩
               · rw [if_neg c20] at H
                 exact absurd H (taah)
             · rw [if_neg c18] at H
               exact absurd H (taah)
           · rw [if_neg c17] at H
             exact absurd H (taah)
         · rw [if_neg c16] at H
           exact absurd H (taah)
       · rw [if_neg c15] at H
         have c15b0 : decide (x30_2 < (t526.length : Int)) = false := zbh c15
         clear c15; replace H := zay.mp H; obtain ⟨t538, A240, H⟩ := H
         replace H : (some (t538, true)) = some (r1, r2) := H
         have A24 := zad A240; clear A240; simp only [zbj, zbn] at H
         obtain ⟨rfl, rfl⟩ := H
         obtain ⟨Ao25, co25, eo25⟩ := zbt HO_8.out
         subst eo25; go_wp2_with (first | ((with_reducible refine zbf (f := 58) rfl ?_); refine zbl (some 47) rfl rfl Try.func58 (by kernel_rfl) rfl #[.slice Ao25 x8_2.length co25] rfl (taac) ?_; (with_reducible refine (spec_liFrom.calls k2 _ _ x8_2 t538 _ ?side1 ?side2 A24.out).mono ?_); (case side1 => repeat (first | exact (zbd HO_8.out).2.2 | (with_reducible refine zal ?_ _) | (with_reducible refine zam ?_ _) | (with_reducible refine zan ?_))); (case side2 => exact (zbd HO_8.out).2.1); rintro e w26 ⟨v539, rfl, ho0, hb⟩; refine ⟨_, rfl, ?_⟩; have n0_ := zad (zby (taae) (zca ho0) hb); have n1_ := zad (zby (taag) (zca ho0) hb); have n2_ := zad (zby (tacv) (zca ho0) hb); have n3_ := zad (zbs (zbz (zbz (zbz ho0 (zcb (taae))) (zcb (taag))) (zcb (tacv))) (zbi (taaa))); have n4_ := zad (zbe (taaa) hb); clear HO_6 HO_7 HO_8 HB; have HO_6 := n0_; have HO_7 := n1_; have HO_8 := n2_; have HO540 := n3_; have HB := n4_; clear n0_ n1_ n2_ n3_ n4_; (try clear hb); (try clear hb2); (try clear hk); (try clear hi); (try clear ho0)))
         go_ret2
         exact ⟨_, taam, by (with_reducible repeat (first | apply zai | apply zaj | apply zak)); exact zbo HO540.out (fun _ hk => trivial), taaa⟩
def laws_pSame.l0 : Nat → List Int → List Int → Int → Int → Option (Bool)
 | 0, _, _, _, _ => none
 | k + 1, x0, x1, x12, x13 => if x13 < x12 then (if 0 ≤ x13 then (if x13 < (x0.length : Int) then (if x13 < (x1.length : Int) then (if (rd x0 x13) = (rd x1 x13) then (laws_pSame.l0 k x0 x1 x12 (wrap64 (x13 + 1))) else (some false)) else (none)) else (none)) else (none)) else (some true)
def laws_pSame.f (k : Nat) (l0 : List Int) (l1 : List Int) : Option (Bool) := if (l0.length : Int) = (l1.length : Int) then (laws_pSame.l0 k l0 l1 (l0.length : Int) 0) else (some false)
theorem laws_pSame.calls (k : Nat) (A0 : Option Addr) (c0 : Nat) (l0 : List Int) (A1 : Option Addr) (c1 : Nat) (l1 : List Int) (r : Bool) (w : World) (hr0 : Kd.C (Kd.int .i64) w A0 l0.length l0) (hc0 : l0.length ≤ c0) (hr1 : Kd.C (Kd.int .i64) w A1 l1.length l1) (hc1 : l1.length ≤ c1) (h : laws_pSame.f k l0 l1 = some r) :
 Calls Try.prog 20 #[.slice A0 l0.length c0, .slice A1 l1.length c1] w fun e w' => e = .returned (.bool r) ∧ Drawn0 w w' := by
 have HR0 := zad hr0; have HC0 := zad hc0; clear hr0 hc0; have HR1 := zad hr1; have HC1 := zad hc1; clear hr1 hc1; have H : (if (l0.length : Int) = (l1.length : Int) then (laws_pSame.l0 k l0 l1 (l0.length : Int) 0) else (some false)) = some r := h
 clear h; by_cases c3 : (l0.length : Int) = (l1.length : Int)
 · rw [if_pos c3] at H
   have c3b0 : ((l0.length : Int) == (l1.length : Int)) = true := beq_iff_eq.mpr c3
   have c3b1 : ((l0.length : Int) != (l1.length : Int)) = false := bne_eq_false_iff_eq.mpr c3
   have c3b2 : (l0.length == l1.length) = true := by first | simpa using c3 | (simp at c3 ⊢; omega)
   clear c3; have H' := zad H
   clear H; go_enter Try.func20, Try.ntmps20
   go_wp2
   repeat (go_quiet (fail); try go_wp2)
   go_loopg [13] k (fun kq v13 w' => ∃ (x13_1 : Int), v13 = .int .i64 x13_1 ∧ Aside0 (laws_pSame.l0 kq l0 l1 (l0.length : Int) x13_1 = some r) ∧ Aside0 (kq ≤ k) ∧ Drawn0 w w')
   case atStart => exact ⟨(0), (taad), H', ⟨zcc _⟩, taap⟩
   case round =>
    clear H'
    try clear c1
    try clear c2
    try clear p2
    try clear c3
    try clear c3b0
    try clear c3b1
    try clear c3b2
    obtain ⟨x13_1, rfl, HA, HK1, ⟨m1, rfl⟩⟩ := hrel
    cases gk with
    | zero => exact absurd HA.out (by simp [laws_pSame.l0])
    | succ k1 =>
     have H := HA.out
     clear HA; simp only [laws_pSame.l0] at H
     by_cases c4 : x13_1 < (l0.length : Int)
     · rw [if_pos c4] at H
       have c4b0 : decide (x13_1 < (l0.length : Int)) = true := zba c4
       clear c4; by_cases c5 : 0 ≤ x13_1
       · rw [if_pos c5] at H
         have c5b0 : decide (0 ≤ x13_1) = true := zba c5
         clear c5; by_cases c6 : x13_1 < (l0.length : Int)
         · rw [if_pos c6] at H
           have c6b0 : decide (x13_1 < (l0.length : Int)) = true := zba c6
           clear c6; by_cases c7 : x13_1 < (l1.length : Int)
           · rw [if_pos c7] at H
             have c7b0 : decide (x13_1 < (l1.length : Int)) = true := zba c7
             clear c7; by_cases c8 : (rd l0 x13_1) = (rd l1 x13_1)
             · rw [if_pos c8] at H
               have c8b0 : ((rd l0 x13_1) == (rd l1 x13_1)) = true := beq_iff_eq.mpr c8
               have c8b1 : ((rd l0 x13_1) != (rd l1 x13_1)) = false := bne_eq_false_iff_eq.mpr c8
               clear c8; have H' := zad H
               clear H; have p541 : 0 ≤ (x13_1 : Int) := zas (taab)
               have q541 : x13_1 < (l0.length : Int) := zas (taab)
               obtain ⟨ad541, e541, hx541_0⟩ := zbx HR0.out x13_1 p541 q541
               cases e541
               replace p541 := eq_true p541
               replace q541 := eq_true q541
               have p542 : 0 ≤ (x13_1 : Int) := zas (taab)
               have q542 : x13_1 < (l1.length : Int) := zas (taab)
               obtain ⟨ad542, e542, hx542_0⟩ := zbx HR1.out x13_1 p542 q542
               cases e542
               replace p542 := eq_true p542
               replace q542 := eq_true q542
               go_wp2
               repeat (go_quiet (fail); try go_wp2)
               go_roundg k1
               case measure => have := HK1.out; omega
               case rel => exact ⟨(wrap64 (x13_1 + 1)), (taad), H', ⟨taaw⟩, taap⟩
             · rw [if_neg c8] at H
               have c8b0 : ((rd l0 x13_1) == (rd l1 x13_1)) = false := zbm.mpr c8
               have c8b1 : ((rd l0 x13_1) != (rd l1 x13_1)) = true := bne_iff_ne.mpr c8
               obtain rfl := zbc H
               have p541 : 0 ≤ (x13_1 : Int) := zas (taab)
               have q541 : x13_1 < (l0.length : Int) := zas (taab)
               obtain ⟨ad541, e541, hx541_0⟩ := zbx HR0.out x13_1 p541 q541
               cases e541
               replace p541 := eq_true p541
               replace q541 := eq_true q541
               have p542 : 0 ≤ (x13_1 : Int) := zas (taab)
               have q542 : x13_1 < (l1.length : Int) := zas (taab)
               obtain ⟨ad542, e542, hx542_0⟩ := zbx HR1.out x13_1 p542 q542
               cases e542
               replace p542 := eq_true p542
               replace q542 := eq_true q542
               go_wp2
               repeat (go_quiet (fail); try go_wp2)
               go_ret
               exact ⟨taad, taap⟩
           · rw [if_neg c7] at H
             exact absurd H (taah)
         · rw [if_neg c6] at H
           exact absurd H (taah)
       · rw [if_neg c5] at H
         exact absurd H (taah)
     · rw [if_neg c4] at H
       have c4b0 : decide (x13_1 < (l0.length : Int)) = false := zbh c4
       clear c4; obtain rfl := zbc H
       go_wp2
       repeat (go_quiet (fail); try go_wp2)
       go_ret
       exact ⟨taad, taap⟩
 · rw [if_neg c3] at H
   have c3b0 : ((l0.length : Int) == (l1.length : Int)) = false := zbm.mpr c3
   have c3b1 : ((l0.length : Int) != (l1.length : Int)) = true := bne_iff_ne.mpr c3
   have c3b2 : (l0.length == l1.length) = false := by first | simpa using c3 | (simp at c3 ⊢; omega)
   obtain rfl := zbc H
   go_enter Try.func20, Try.ntmps20
   go_wp2
   repeat (go_quiet (fail); try go_wp2)
   go_ret
   exact ⟨taad, taap⟩
def impl_RankingOf.f (k : Nat) (l0 : List Int) : Option (List Int × Bool) := (impl_IsList.f k l0).bind fun t543 => (if t543 = true then ((impl_ranking.f l0).bind fun t544 => (some (t544, true))) else (some (([] : List Int), false)))
theorem impl_RankingOf.calls (k : Nat) (A0 : Option Addr) (c0 : Nat) (l0 : List Int) (r1 : List Int) (r2 : Bool) (w : World) (hr0 : Kd.C (Kd.int .i64) w A0 l0.length l0) (hc0 : l0.length ≤ c0) (h : impl_RankingOf.f k l0 = some (r1, r2)) :
 Calls Try.prog 21 #[.slice A0 l0.length c0] w fun e w' => ∃ v0_ : Value, e = .returned (.tuple #[v0_, .bool r2]) ∧ Kd.R (Kd.int .i64) 3 w' w.heap.size (fun _ => True) v0_ r1 ∧ Below w.heap.size w w' := by
 have HR0 := zad hr0; have HC0 := zad hc0; clear hr0 hc0; have HB := zad (Below.refl w.heap.size w)
 have H : ((impl_IsList.f k l0).bind fun t543 => (if t543 = true then ((impl_ranking.f l0).bind fun t544 => (some (t544, true))) else (some (([] : List Int), false)))) = some (r1, r2) := h
 clear h; replace H := zay.mp H; obtain ⟨t543, A20, H⟩ := H
 replace H : (if t543 = true then ((impl_ranking.f l0).bind fun t544 => (some (t544, true))) else (some (([] : List Int), false))) = some (r1, r2) := H
 have A2 := zad A20; clear A20; by_cases c3 : t543 = true
 · subst c3
   have H1 : ((impl_ranking.f l0).bind fun t544 => (some (t544, true))) = some (r1, r2) := by rw [if_pos rfl] at H; exact H
   clear H; have H := H1; clear H1; replace H := zay.mp H; obtain ⟨t544, A40, H⟩ := H
   replace H : (some (t544, true)) = some (r1, r2) := H
   have A4 := zad A40; clear A40; simp only [zbj, zbn] at H
   obtain ⟨rfl, rfl⟩ := H
   go_enter Try.func21, Try.ntmps21
   go_wp2_with (first | ((with_reducible refine zbf (f := 38) rfl ?_); refine zbl (some 5) rfl rfl Try.func38 (by kernel_rfl) rfl #[.slice A0 l0.length c0] rfl (taac) ?_; (with_reducible refine (impl_IsList.calls k _ _ l0 true _ ?side1 ?side2 A2.out).mono ?_); (case side1 => repeat (first | exact HR0.out | (with_reducible refine zal ?_ _) | (with_reducible refine zam ?_ _) | (with_reducible refine zan ?_))); (case side2 => exact HC0.out); rintro e w' ⟨rfl, ⟨nd, rfl⟩⟩; refine ⟨_, rfl, ?_⟩) | ((with_reducible refine zbf (f := 59) rfl ?_); refine zbl (some 8) rfl rfl Try.func59 (by kernel_rfl) rfl #[.slice A0 l0.length c0] rfl (taac) ?_; (with_reducible refine (impl_ranking.calls _ _ l0 t544 _ ?side1 ?side2 A4.out).mono ?_); (case side1 => repeat (first | exact HR0.out | (with_reducible refine zal ?_ _) | (with_reducible refine zam ?_ _) | (with_reducible refine zan ?_))); (case side2 => exact HC0.out); rintro e w5 ⟨v545, rfl, ho0, hb⟩; refine ⟨_, rfl, ?_⟩; have n0_ := zad (zbs ho0 (zbi (taaa))); have n1_ := zad (zbe (taaa) hb); clear HB; have HO546 := n0_; have HB := n1_; clear n0_ n1_; (try clear hb); (try clear hb2); (try clear hk); (try clear hi); (try clear ho0)))
   go_ret2
   exact ⟨_, taam, by (with_reducible repeat (first | apply zai | apply zaj | apply zak)); exact HO546.out, taaa⟩
 · replace c3 := zbg.mpr c3
   subst c3; have H1 : (some (([] : List Int), false)) = some (r1, r2) := by rw [if_neg (show ¬ (false = true) by decide)] at H; exact H
   clear H; have H := H1; clear H1; simp only [zbj, zbn] at H
   obtain ⟨rfl, rfl⟩ := H
   go_enter Try.func21, Try.ntmps21
   go_wp2_with (first | ((with_reducible refine zbf (f := 38) rfl ?_); refine zbl (some 5) rfl rfl Try.func38 (by kernel_rfl) rfl #[.slice A0 l0.length c0] rfl (taac) ?_; (with_reducible refine (impl_IsList.calls k _ _ l0 false _ ?side1 ?side2 A2.out).mono ?_); (case side1 => exact taen); (case side2 => exact HC0.out); rintro e w' ⟨rfl, ⟨nd, rfl⟩⟩; refine ⟨_, rfl, ?_⟩))
   go_ret2
   exact ⟨_, taam, taaz, taaa⟩
def impl_refused.l0 : Nat → List Int → List Int → Int → Int → Option (Int)
 | 0, _, _, _, _ => none
 | k + 1, x5, x11, x12, x13 => if x13 < x12 then (if 0 ≤ x13 then (if x13 < (x11.length : Int) then (if x13 < (x5.length : Int) then (if (rd x11 x13) > (rd x5 x13) then (some (wrap64 (x13 + 1))) else (impl_refused.l0 k x5 x11 x12 (wrap64 (x13 + 1)))) else (none)) else (none)) else (none)) else (some 0)
def impl_refused.f (k : Nat) (l0 : List Int) (l1 : List Int) : Option (Int) := (impl_partial.f k l1).bind fun t547 => ((impl_partial.f k l0).bind fun t550 => (impl_refused.l0 k t547 t550 (t550.length : Int) 0))
theorem impl_refused.calls (k : Nat) (A0 : Option Addr) (c0 : Nat) (l0 : List Int) (A1 : Option Addr) (c1 : Nat) (l1 : List Int) (r : Int) (w : World) (hr0 : Kd.C (Kd.int .i64) w A0 l0.length l0) (hc0 : l0.length ≤ c0) (hr1 : Kd.C (Kd.int .i64) w A1 l1.length l1) (hc1 : l1.length ≤ c1) (h : impl_refused.f k l0 l1 = some r) :
 Calls Try.prog 76 #[.slice A0 l0.length c0, .slice A1 l1.length c1] w fun e w' => e = .returned (.int .i64 r) ∧ Below w.heap.size w w' := by
 have HR0 := zad hr0; have HC0 := zad hc0; clear hr0 hc0; have HR1 := zad hr1; have HC1 := zad hc1; clear hr1 hc1; have HB := zad (Below.refl w.heap.size w)
 have H : ((impl_partial.f k l1).bind fun t547 => ((impl_partial.f k l0).bind fun t550 => (impl_refused.l0 k t547 t550 (t550.length : Int) 0))) = some r := h
 clear h; replace H := zay.mp H; obtain ⟨t547, A30, H⟩ := H
 replace H : ((impl_partial.f k l0).bind fun t550 => (impl_refused.l0 k t547 t550 (t550.length : Int) 0)) = some r := H
 have A3 := zad A30; clear A30; replace H := zay.mp H; obtain ⟨t550, A40, H⟩ := H
 replace H : (impl_refused.l0 k t547 t550 (t550.length : Int) 0) = some r := H
 have A4 := zad A40; clear A40; have H' := zad H
 clear H; go_enter Try.func76, Try.ntmps76
 go_wp2_with (first | ((with_reducible refine zbf (f := 78) rfl ?_); refine zbl (some 9) rfl rfl Try.func78 (by kernel_rfl) rfl #[.slice A1 l1.length c1] rfl (taac) ?_; (with_reducible refine (impl_partial.calls k _ _ l1 t547 _ ?side1 ?side2 A3.out).mono ?_); (case side1 => repeat (first | exact HR1.out | (with_reducible refine zal ?_ _) | (with_reducible refine zam ?_ _) | (with_reducible refine zan ?_))); (case side2 => exact HC1.out); rintro e w5 ⟨v548, rfl, ho0, hb⟩; refine ⟨_, rfl, ?_⟩; have n0_ := zad (zbs ho0 (zbi (taaa))); have n1_ := zad (zbe (taaa) hb); clear HB; have HO549 := n0_; have HB := n1_; clear n0_ n1_; (try clear hb); (try clear hb2); (try clear hk); (try clear hi); (try clear ho0)) | ((with_reducible refine zbf (f := 78) rfl ?_); refine zbl (some 11) rfl rfl Try.func78 (by kernel_rfl) rfl #[.slice A0 l0.length c0] rfl (taac) ?_; (with_reducible refine (impl_partial.calls k _ _ l0 t550 _ ?side1 ?side2 A4.out).mono ?_); (case side1 => repeat (first | exact (Kd.C_below HR0.out HB.out) | (with_reducible refine zal ?_ _) | (with_reducible refine zam ?_ _) | (with_reducible refine zan ?_))); (case side2 => exact HC0.out); rintro e w6 ⟨v551, rfl, ho0, hb⟩; refine ⟨_, rfl, ?_⟩; have n0_ := zad (zby (tadt) (zca ho0) hb); have n1_ := zad (zbs (zbz ho0 (zcb (tadt))) (zbi (taaa))); have n2_ := zad (zbe (taaa) hb); clear HO549 HB; have HO549 := n0_; have HO552 := n1_; have HB := n2_; clear n0_ n1_ n2_; (try clear hb); (try clear hb2); (try clear hk); (try clear hi); (try clear ho0); obtain ⟨Ao7, co7, eo7⟩ := zbt HO552.out; subst eo7))
 go_loopg [13] k (fun kq v13 w' => ∃ (x13_1 : Int), v13 = .int .i64 x13_1 ∧ Aside0 (impl_refused.l0 kq t547 t550 (t550.length : Int) x13_1 = some r) ∧ Aside0 (kq ≤ k) ∧ Aside0 (Kd.R (Kd.int .i64) 3 w' w.heap.size (fun k_ => some k_ ≠ ((.slice Ao7 t550.length co7) : Value).ownBlock) v548 t547) ∧ Aside0 (Kd.R (Kd.int .i64) 3 w' w.heap.size (fun k_ => some k_ ≠ (v548 : Value).ownBlock) (.slice Ao7 t550.length co7) t550) ∧ Aside0 (Below w.heap.size w w'))
 case atStart => exact ⟨(0), (taad), H', ⟨zcc _⟩, ⟨by (with_reducible repeat (first | apply zai | apply zaj | apply zak)); exact zbo HO549.out (fun _ hk => hk.2)⟩, ⟨by (with_reducible repeat (first | apply zai | apply zaj | apply zak)); exact zbo HO552.out (fun _ hk => hk.2)⟩, ⟨taaa⟩⟩
 case round =>
  clear H'
  try clear c1
  try clear p2
  try clear c7
  obtain ⟨x13_1, rfl, HA, HK1, HO_5, HO_11, HB⟩ := hrel
  cases gk with
  | zero => exact absurd HA.out (by simp [impl_refused.l0])
  | succ k1 =>
   have H := HA.out
   clear HA; simp only [impl_refused.l0] at H
   by_cases c8 : x13_1 < (t550.length : Int)
   · rw [if_pos c8] at H
     have c8b0 : decide (x13_1 < (t550.length : Int)) = true := zba c8
     clear c8; by_cases c9 : 0 ≤ x13_1
     · rw [if_pos c9] at H
       have c9b0 : decide (0 ≤ x13_1) = true := zba c9
       clear c9; by_cases c10 : x13_1 < (t550.length : Int)
       · rw [if_pos c10] at H
         have c10b0 : decide (x13_1 < (t550.length : Int)) = true := zba c10
         clear c10; by_cases c11 : x13_1 < (t547.length : Int)
         · rw [if_pos c11] at H
           have c11b0 : decide (x13_1 < (t547.length : Int)) = true := zba c11
           clear c11; by_cases c12 : (rd t550 x13_1) > (rd t547 x13_1)
           · rw [if_pos c12] at H
             have c12b0 : decide ((rd t547 x13_1) < (rd t550 x13_1)) = true := zba c12
             clear c12; obtain rfl := zbc H
             have p553 : 0 ≤ (x13_1 : Int) := zas (taab)
             have q553 : x13_1 < (t550.length : Int) := zas (taab)
             obtain ⟨ad553, e553, hx553_0⟩ := zbx (zbd HO_11.out).2.2 x13_1 p553 q553
             cases e553
             replace p553 := eq_true p553
             replace q553 := eq_true q553
             obtain ⟨Ao13, co13, eo13⟩ := zbt HO_5.out
             subst eo13; have p554 : 0 ≤ (x13_1 : Int) := zas (taab)
             have q554 : x13_1 < (t547.length : Int) := zas (taab)
             obtain ⟨ad554, e554, hx554_0⟩ := zbx (zbd HO_5.out).2.2 x13_1 p554 q554
             cases e554
             replace p554 := eq_true p554
             replace q554 := eq_true q554
             go_wp2
             go_ret
             exact ⟨taam, taaa⟩
           · rw [if_neg c12] at H
             have c12b0 : decide ((rd t547 x13_1) < (rd t550 x13_1)) = false := zbh c12
             clear c12; have H' := zad H
             clear H; have p553 : 0 ≤ (x13_1 : Int) := zas (taab)
             have q553 : x13_1 < (t550.length : Int) := zas (taab)
             obtain ⟨ad553, e553, hx553_0⟩ := zbx (zbd HO_11.out).2.2 x13_1 p553 q553
             cases e553
             replace p553 := eq_true p553
             replace q553 := eq_true q553
             obtain ⟨Ao14, co14, eo14⟩ := zbt HO_5.out
             subst eo14; have p554 : 0 ≤ (x13_1 : Int) := zas (taab)
             have q554 : x13_1 < (t547.length : Int) := zas (taab)
             obtain ⟨ad554, e554, hx554_0⟩ := zbx (zbd HO_5.out).2.2 x13_1 p554 q554
             cases e554
             replace p554 := eq_true p554
             replace q554 := eq_true q554
             go_wp2
             go_roundg k1
             case measure => have := HK1.out; omega
             case rel => exact ⟨(wrap64 (x13_1 + 1)), (taad), H', ⟨taaw⟩, ⟨taaf⟩, ⟨taaj⟩, ⟨taaa⟩⟩
         · rw [if_neg c11] at H
           exact absurd H (taah)
       · rw [if_neg c10] at H
         exact absurd H (taah)
     · rw [if_neg c9] at H
       exact absurd H (taah)
   · rw [if_neg c8] at H
     have c8b0 : decide (x13_1 < (t550.length : Int)) = false := zbh c8
     clear c8; obtain rfl := zbc H
     go_wp2
     go_ret
     exact ⟨taam, taaa⟩
def impl_isMajorized.f (k : Nat) (l0 : List Int) (l1 : List Int) : Option (Bool) := (impl_doFit.f k l0 l1).bind fun t555 => (if t555 = true then ((impl_refused.f k l0 l1).bind fun t556 => (some (t556 == 0))) else (some false))
theorem impl_isMajorized.calls (k : Nat) (A0 : Option Addr) (c0 : Nat) (l0 : List Int) (A1 : Option Addr) (c1 : Nat) (l1 : List Int) (r : Bool) (w : World) (hr0 : Kd.C (Kd.int .i64) w A0 l0.length l0) (hc0 : l0.length ≤ c0) (hr1 : Kd.C (Kd.int .i64) w A1 l1.length l1) (hc1 : l1.length ≤ c1) (h : impl_isMajorized.f k l0 l1 = some r) :
 Calls Try.prog 43 #[.slice A0 l0.length c0, .slice A1 l1.length c1] w fun e w' => e = .returned (.bool r) ∧ Below w.heap.size w w' := by
 have HR0 := zad hr0; have HC0 := zad hc0; clear hr0 hc0; have HR1 := zad hr1; have HC1 := zad hc1; clear hr1 hc1; have HB := zad (Below.refl w.heap.size w)
 have H : ((impl_doFit.f k l0 l1).bind fun t555 => (if t555 = true then ((impl_refused.f k l0 l1).bind fun t556 => (some (t556 == 0))) else (some false))) = some r := h
 clear h; replace H := zay.mp H; obtain ⟨t555, A30, H⟩ := H
 replace H : (if t555 = true then ((impl_refused.f k l0 l1).bind fun t556 => (some (t556 == 0))) else (some false)) = some r := H
 have A3 := zad A30; clear A30; by_cases c4 : t555 = true
 · subst c4
   have H1 : ((impl_refused.f k l0 l1).bind fun t556 => (some (t556 == 0))) = some r := by rw [if_pos rfl] at H; exact H
   clear H; have H := H1; clear H1; replace H := zay.mp H; obtain ⟨t556, A50, H⟩ := H
   replace H : (some (t556 == 0)) = some r := H
   have A5 := zad A50; clear A50; obtain rfl := zbc H
   go_enter Try.func43, Try.ntmps43
   go_wp2_with (first | ((with_reducible refine zbf (f := 50) rfl ?_); refine zbl (some 7) rfl rfl Try.func50 (by kernel_rfl) rfl #[.slice A0 l0.length c0, .slice A1 l1.length c1] rfl (taac) ?_; (with_reducible refine (impl_doFit.calls k _ _ l0 _ _ l1 true _ ?side1 ?side2 ?side3 ?side4 A3.out).mono ?_); (case side1 => repeat (first | exact HR0.out | (with_reducible refine zal ?_ _) | (with_reducible refine zam ?_ _) | (with_reducible refine zan ?_))); (case side2 => exact HC0.out); (case side3 => repeat (first | exact HR1.out | (with_reducible refine zal ?_ _) | (with_reducible refine zam ?_ _) | (with_reducible refine zan ?_))); (case side4 => exact HC1.out); rintro e w' ⟨rfl, ⟨nd, rfl⟩⟩; refine ⟨_, rfl, ?_⟩) | (go_at_call 76; (with_reducible refine (impl_refused.calls k _ _ l0 _ _ l1 t556 _ ?side1 ?side2 ?side3 ?side4 A5.out).mono ?_); (case side1 => repeat (first | exact HR0.out | (with_reducible refine zal ?_ _) | (with_reducible refine zam ?_ _) | (with_reducible refine zan ?_))); (case side2 => exact HC0.out); (case side3 => repeat (first | exact HR1.out | (with_reducible refine zal ?_ _) | (with_reducible refine zam ?_ _) | (with_reducible refine zan ?_))); (case side4 => exact HC1.out); rintro e w6 ⟨rfl, hb⟩; have n0_ := zad (zbe (taaa) hb); clear HB; have HB := n0_; clear n0_; (try clear hb); (try clear hb2); (try clear hk); (try clear hi)))
   go_ret
   exact ⟨taam, taaa⟩
 · replace c4 := zbg.mpr c4
   subst c4; have H1 : (some false) = some r := by rw [if_neg (show ¬ (false = true) by decide)] at H; exact H
   clear H; have H := H1; clear H1; obtain rfl := zbc H
   go_enter Try.func43, Try.ntmps43
   go_wp2_with (first | ((with_reducible refine zbf (f := 50) rfl ?_); refine zbl (some 7) rfl rfl Try.func50 (by kernel_rfl) rfl #[.slice A0 l0.length c0, .slice A1 l1.length c1] rfl (taac) ?_; (with_reducible refine (impl_doFit.calls k _ _ l0 _ _ l1 false _ ?side1 ?side2 ?side3 ?side4 A3.out).mono ?_); (case side1 => exact taen); (case side2 => exact HC0.out); (case side3 => exact taeo); (case side4 => exact HC1.out); rintro e w' ⟨rfl, ⟨nd, rfl⟩⟩; refine ⟨_, rfl, ?_⟩))
   go_ret
   exact ⟨taam, taaa⟩
def impl_IsMajorized.f (k : Nat) (l0 : List Int) (l1 : List Int) : Option (Bool × Bool) := (impl_areLists.f k l0 l1).bind fun t557 => (if t557 = true then ((impl_isMajorized.f k l0 l1).bind fun t558 => (some (t558, true))) else (some (false, false)))
theorem impl_IsMajorized.calls (k : Nat) (A0 : Option Addr) (c0 : Nat) (l0 : List Int) (A1 : Option Addr) (c1 : Nat) (l1 : List Int) (r1 : Bool) (r2 : Bool) (w : World) (hr0 : Kd.C (Kd.int .i64) w A0 l0.length l0) (hc0 : l0.length ≤ c0) (hr1 : Kd.C (Kd.int .i64) w A1 l1.length l1) (hc1 : l1.length ≤ c1) (h : impl_IsMajorized.f k l0 l1 = some (r1, r2)) :
 Calls Try.prog 60 #[.slice A0 l0.length c0, .slice A1 l1.length c1] w fun e w' => e = .returned (.tuple #[.bool r1, .bool r2]) ∧ Below w.heap.size w w' := by
 have HR0 := zad hr0; have HC0 := zad hc0; clear hr0 hc0; have HR1 := zad hr1; have HC1 := zad hc1; clear hr1 hc1; have HB := zad (Below.refl w.heap.size w)
 have H : ((impl_areLists.f k l0 l1).bind fun t557 => (if t557 = true then ((impl_isMajorized.f k l0 l1).bind fun t558 => (some (t558, true))) else (some (false, false)))) = some (r1, r2) := h
 clear h; replace H := zay.mp H; obtain ⟨t557, A30, H⟩ := H
 replace H : (if t557 = true then ((impl_isMajorized.f k l0 l1).bind fun t558 => (some (t558, true))) else (some (false, false))) = some (r1, r2) := H
 have A3 := zad A30; clear A30; by_cases c4 : t557 = true
 · subst c4
   have H1 : ((impl_isMajorized.f k l0 l1).bind fun t558 => (some (t558, true))) = some (r1, r2) := by rw [if_pos rfl] at H; exact H
   clear H; have H := H1; clear H1; replace H := zay.mp H; obtain ⟨t558, A50, H⟩ := H
   replace H : (some (t558, true)) = some (r1, r2) := H
   have A5 := zad A50; clear A50; simp only [zbj, zbn] at H
   obtain ⟨rfl, rfl⟩ := H
   go_enter Try.func60, Try.ntmps60
   go_wp2_with (first | ((with_reducible refine zbf (f := 49) rfl ?_); refine zbl (some 8) rfl rfl Try.func49 (by kernel_rfl) rfl #[.slice A0 l0.length c0, .slice A1 l1.length c1] rfl (taac) ?_; (with_reducible refine (impl_areLists.calls k _ _ l0 _ _ l1 true _ ?side1 ?side2 ?side3 ?side4 A3.out).mono ?_); (case side1 => repeat (first | exact HR0.out | (with_reducible refine zal ?_ _) | (with_reducible refine zam ?_ _) | (with_reducible refine zan ?_))); (case side2 => exact HC0.out); (case side3 => repeat (first | exact HR1.out | (with_reducible refine zal ?_ _) | (with_reducible refine zam ?_ _) | (with_reducible refine zan ?_))); (case side4 => exact HC1.out); rintro e w' ⟨rfl, ⟨nd, rfl⟩⟩; refine ⟨_, rfl, ?_⟩) | ((with_reducible refine zbf (f := 43) rfl ?_); refine zbl (some 12) rfl rfl Try.func43 (by kernel_rfl) rfl #[.slice A0 l0.length c0, .slice A1 l1.length c1] rfl (taac) ?_; (with_reducible refine (impl_isMajorized.calls k _ _ l0 _ _ l1 t558 _ ?side1 ?side2 ?side3 ?side4 A5.out).mono ?_); (case side1 => repeat (first | exact HR0.out | (with_reducible refine zal ?_ _) | (with_reducible refine zam ?_ _) | (with_reducible refine zan ?_))); (case side2 => exact HC0.out); (case side3 => repeat (first | exact HR1.out | (with_reducible refine zal ?_ _) | (with_reducible refine zam ?_ _) | (with_reducible refine zan ?_))); (case side4 => exact HC1.out); rintro e w6 ⟨rfl, hb⟩; refine ⟨_, rfl, ?_⟩; have n0_ := zad (zbe (taaa) hb); clear HB; have HB := n0_; clear n0_; (try clear hb); (try clear hb2); (try clear hk); (try clear hi)))
   go_ret2
   exact ⟨taam, taaa⟩
 · replace c4 := zbg.mpr c4
   subst c4; have H1 : (some (false, false)) = some (r1, r2) := by rw [if_neg (show ¬ (false = true) by decide)] at H; exact H
   clear H; have H := H1; clear H1; simp only [zbj, zbn] at H
   obtain ⟨rfl, rfl⟩ := H
   go_enter Try.func60, Try.ntmps60
   go_wp2_with (first | ((with_reducible refine zbf (f := 49) rfl ?_); refine zbl (some 8) rfl rfl Try.func49 (by kernel_rfl) rfl #[.slice A0 l0.length c0, .slice A1 l1.length c1] rfl (taac) ?_; (with_reducible refine (impl_areLists.calls k _ _ l0 _ _ l1 false _ ?side1 ?side2 ?side3 ?side4 A3.out).mono ?_); (case side1 => exact taen); (case side2 => exact HC0.out); (case side3 => exact taeo); (case side4 => exact HC1.out); rintro e w' ⟨rfl, ⟨nd, rfl⟩⟩; refine ⟨_, rfl, ?_⟩))
   go_ret2
   exact ⟨taam, taaa⟩
def laws_pBelow.f (k : Nat) (l0 : List Int) (l1 : List Int) : Option (Bool) := (impl_IsMajorized.f k l0 l1).bind fun bt559 => (if bt559.2 = true then (some bt559.1) else (some false))
theorem laws_pBelow.calls (k : Nat) (A0 : Option Addr) (c0 : Nat) (l0 : List Int) (A1 : Option Addr) (c1 : Nat) (l1 : List Int) (r : Bool) (w : World) (hr0 : Kd.C (Kd.int .i64) w A0 l0.length l0) (hc0 : l0.length ≤ c0) (hr1 : Kd.C (Kd.int .i64) w A1 l1.length l1) (hc1 : l1.length ≤ c1) (h : laws_pBelow.f k l0 l1 = some r) :
 Calls Try.prog 22 #[.slice A0 l0.length c0, .slice A1 l1.length c1] w fun e w' => e = .returned (.bool r) ∧ Below w.heap.size w w' := by
 have HR0 := zad hr0; have HC0 := zad hc0; clear hr0 hc0; have HR1 := zad hr1; have HC1 := zad hc1; clear hr1 hc1; have HB := zad (Below.refl w.heap.size w)
 have H : ((impl_IsMajorized.f k l0 l1).bind fun bt559 => (if bt559.2 = true then (some bt559.1) else (some false))) = some r := h
 clear h; replace H := zay.mp H; obtain ⟨⟨t559, t560⟩, A30, H⟩ := H
 replace H : (if t560 = true then (some t559) else (some false)) = some r := H
 have A3 := zad A30; clear A30; by_cases c4 : t560 = true
 · subst c4
   have H1 : (some t559) = some r := by rw [if_pos rfl] at H; exact H
   clear H; have H := H1; clear H1; obtain rfl := zbc H
   go_enter Try.func22, Try.ntmps22
   go_wp2_with (first | ((with_reducible refine zbf (f := 60) rfl ?_); refine zbl (some 10) rfl rfl Try.func60 (by kernel_rfl) rfl #[.slice A0 l0.length c0, .slice A1 l1.length c1] rfl (taac) ?_; (with_reducible refine (impl_IsMajorized.calls k _ _ l0 _ _ l1 t559 true _ ?side1 ?side2 ?side3 ?side4 A3.out).mono ?_); (case side1 => exact taen); (case side2 => exact HC0.out); (case side3 => exact taeo); (case side4 => exact HC1.out); rintro e w5 ⟨rfl, hb⟩; refine ⟨_, rfl, ?_⟩; have n0_ := zad (zbe (taaa) hb); clear HB; have HB := n0_; clear n0_; (try clear hb); (try clear hb2); (try clear hk); (try clear hi)))
   go_ret
   exact ⟨taam, taaa⟩
 · replace c4 := zbg.mpr c4
   subst c4; have H1 : (some false) = some r := by rw [if_neg (show ¬ (false = true) by decide)] at H; exact H
   clear H; have H := H1; clear H1; obtain rfl := zbc H
   go_enter Try.func22, Try.ntmps22
   go_wp2_with (first | ((with_reducible refine zbf (f := 60) rfl ?_); refine zbl (some 10) rfl rfl Try.func60 (by kernel_rfl) rfl #[.slice A0 l0.length c0, .slice A1 l1.length c1] rfl (taac) ?_; (with_reducible refine (impl_IsMajorized.calls k _ _ l0 _ _ l1 t559 false _ ?side1 ?side2 ?side3 ?side4 A3.out).mono ?_); (case side1 => exact taen); (case side2 => exact HC0.out); (case side3 => exact taeo); (case side4 => exact HC1.out); rintro e w6 ⟨rfl, hb⟩; refine ⟨_, rfl, ?_⟩; have n0_ := zad (zbe (taaa) hb); clear HB; have HB := n0_; clear n0_; (try clear hb); (try clear hb2); (try clear hk); (try clear hi)))
   go_ret
   exact ⟨taam, taaa⟩
abbrev zck := @laws_pBelow.calls
mutual
def impl_rankings.l0 : Nat → Int → Int → List (List Int) → Int → Option ((List (List Int)))
 | 0, _, _, _, _ => none
 | k + 1, x0, x1, x7, x8 => if x8 ≥ 0 then (impl_rankings.j1 k x0 x1 x7 x8 (decide ((wrap64 (x8 * x0)) ≥ x1))) else (impl_rankings.j1 k x0 x1 x7 x8 false)
def impl_rankings.j1 : Nat → Int → Int → List (List Int) → Int → Bool → Option ((List (List Int)))
 | 0, _, _, _, _, _ => none
 | k + 1, x0, x1, x7, x8, x29 => if x29 = true then ((impl_rankings.f k (wrap64 (x0 - 1)) (wrap64 (x1 - x8)) x8).bind fun t264 => (impl_rankings.l1 k x0 x1 x7 x8 t264 (t264.length : Int) 0)) else (some x7)
def impl_rankings.l1 : Nat → Int → Int → List (List Int) → Int → List (List Int) → Int → Int → Option ((List (List Int)))
 | 0, _, _, _, _, _, _, _ => none
 | k + 1, x0, x1, x7, x8, x38, x39, x40 => if x40 < x39 then (if 0 ≤ x40 then (if x40 < (x38.length : Int) then ((some (([x8] : List Int) : List Int)).bind fun y268 => (if y268.length + (rd_L1 x38 x40).length < 17592186044416 then (if x7.length < 5864062014805 then (impl_rankings.l1 k x0 x1 (x7 ++ [(y268 ++ (rd_L1 x38 x40))]) x8 x38 x39 (wrap64 (x40 + 1))) else (none)) else (none))) else (none)) else (none)) else (impl_rankings.l0 k x0 x1 x7 (wrap64 (x8 - 1)))
def impl_rankings.f : Nat → Int → Int → Int → Option ((List (List Int)))
 | 0, _, _, _ => none
 | k + 1, a0, a1, a2 => if a0 = 0 then (if a1 = 0 then (some (([(([] : List Int))] : List (List Int)))) else (some ([] : List (List Int)))) else (impl_rankings.l0 k a0 a1 (([] : List (List Int))) (mn a1 a2))
end
theorem impl_rankings.calls (k : Nat) : ∀ (a0 : Int) (a1 : Int) (a2 : Int) (r : List (List Int)) (w : World) (h : impl_rankings.f k a0 a1 a2 = some r),
 Calls Try.prog 65 #[.int .i64 a0, .int .i64 a1, .int .i64 a2] w fun e w' => ∃ v0_ : Value, e = .returned (v0_) ∧ Kd.S (Kd.slice 3 (Kd.int .i64)) 22 w' w.heap.size (fun _ => True) v0_ r ∧ Below w.heap.size w w' := by
 induction k using Nat.strongRecOn with
 | _ k ih =>
 intro a0 a1 a2 r w h
 cases k with
 | zero => exact absurd h (by simp [impl_rankings.f])
 | succ k =>
 simp only [impl_rankings.f] at h
 have HB := zad (Below.refl w.heap.size w)
 have H : (if a0 = 0 then (if a1 = 0 then (some (([(([] : List Int))] : List (List Int)))) else (some ([] : List (List Int)))) else (impl_rankings.l0 k a0 a1 (([] : List (List Int))) (mn a1 a2))) = some r := h
 clear h; by_cases c4 : a0 = 0
 · rw [if_pos c4] at H
   have c4b0 : (a0 == 0) = true := beq_iff_eq.mpr c4
   have c4b1 : (a0 != 0) = false := bne_eq_false_iff_eq.mpr c4
   clear c4; by_cases c5 : a1 = 0
   · rw [if_pos c5] at H
     have c5b0 : (a1 == 0) = true := beq_iff_eq.mpr c5
     have c5b1 : (a1 != 0) = false := bne_eq_false_iff_eq.mpr c5
     clear c5; obtain ⟨y255, hy255⟩ : ∃ y_ : List Int, y_ = (([] : List Int)) := ⟨_, rfl⟩
     replace H : (some (([y255] : List (List Int)))) = some r := by first | (rw [hy255]; with_reducible exact H) | (have H2_ := (zbb _ _).symm.trans H; rw [hy255]; with_reducible exact H2_) | (have H2_ := (zbb _ _).symm.trans H; with_reducible exact H2_) | with_reducible exact H | (rw [hy255]; exact H) | exact H
     have Ny255 := zad hy255; clear hy255; obtain ⟨y258, hy258⟩ : ∃ y_ : List (List Int), y_ = (([y255] : List (List Int))) := ⟨_, rfl⟩
     replace H : (some y258) = some r := by first | (rw [hy258]; with_reducible exact H) | (have H2_ := (zbb _ _).symm.trans H; rw [hy258]; with_reducible exact H2_) | (have H2_ := (zbb _ _).symm.trans H; with_reducible exact H2_) | with_reducible exact H | (rw [hy258]; exact H) | exact H
     have Ny258 := zad hy258; clear hy258; obtain rfl := zbc H
     go_enter Try.func65, Try.ntmps65
     go_wp2_with (first | ((with_reducible refine gate_dst (N := 15) rfl ?_); refine Kd.R_lit (Kd.int .i64) _ 3 ?hg (N := 15) ?hd (xs := ([] : List Int)) (inner := []) (ok := fun _ => True) (okp := fun _ => True) ?hr ?hp (fun _ hk => hk) trivial (Below.refl _ _) (zcc _) (taah) ?_; (case hd => rfl); (case hg => rfl); (case hr => first | (go_simp; done) | (go_simp; rfl)); (case hp => exact (Reps.none _ _)); intro v256 w6 ho7 hb hg_ hnew_; clear hg_ hnew_; (first | rw [← Ny255.out] at ho7 | (simp only [Int.reduceToNat] at ho7; rw [← Ny255.out] at ho7)); have n0_ := zad (zbs ho7 (zbi (taaa))); have n1_ := zad (zbe (taaa) hb); clear HB; have HO257 := n0_; have HB := n1_; clear n0_ n1_ hb ho7; obtain ⟨Ao8, co8, eo8⟩ := zbt HO257.out; subst eo8) | ((with_reducible refine gate_dst (N := 16) rfl ?_); refine Kd.S_lits (Kd.slice 3 (Kd.int .i64)) _ 22 ?hg (N := 16) ?hd (xs := ([y255] : List (List Int))) (inner := [.slice Ao8 y255.length co8]) (ok := fun _ => True) (fun j_ _ => j_ = 0) ?hr rfl ?hp (fun i_ j_ _ h1 h2 => h1.trans h2.symm) (fun _ _ _ => trivial) trivial (Below.refl _ _) (zbi (taaa)) (taah) ?_; (case hd => rfl); (case hg => rfl); (case hr => first | (go_simp; done) | (go_simp; rfl)); (case hp => intro j_ x_ hx_; cases j_ with | zero => (simp only [List.getElem?_cons_zero, zbj] at hx_; subst hx_; exact ⟨_, rfl, zbo (by (with_reducible repeat (first | apply zai | apply zaj | apply zak)); exact HO257.out) (fun _ _ => rfl)⟩) | succ j_ => simp at hx_); intro v259 w9 hoLITho10 hb hg_ hnew_; replace hb := (fun {a b : World} (h : a.grownBy b none) => (⟨h.os, h.tape, h.output, h.size, fun i hi => h.block i hi (taah)⟩ : Below a.heap.size a b)) hg_; clear hg_ hnew_; (first | rw [← Ny258.out] at hoLITho10 | (simp only [Int.reduceToNat] at hoLITho10; rw [← Ny258.out] at hoLITho10)); have n0_ := zad (hoLITho10); have n1_ := zad (zbe (taaa) hb); clear HB HO257; have HO260 := n0_; have HB := n1_; clear n0_ n1_ hb hoLITho10))
     go_ret
     exact ⟨_, taam, by (with_reducible repeat (first | apply Kd.S_alloc | apply Kd.S_drewN | apply Kd.S_drew)); exact HO260.out, taaa⟩
   · rw [if_neg c5] at H
     have c5b0 : (a1 == 0) = false := zbm.mpr c5
     have c5b1 : (a1 != 0) = true := bne_iff_ne.mpr c5
     obtain rfl := zbc H
     go_enter Try.func65, Try.ntmps65
     go_wp2
     go_ret
     exact ⟨_, taam, tacw, taaa⟩
 · rw [if_neg c4] at H
   have c4b0 : (a0 == 0) = false := zbm.mpr c4
   have c4b1 : (a0 != 0) = true := bne_iff_ne.mpr c4
   obtain ⟨y261, hy261⟩ : ∃ y_ : List (List Int), y_ = (([] : List (List Int))) := ⟨_, rfl⟩
   replace H : (impl_rankings.l0 k a0 a1 y261 (mn a1 a2)) = some r := by first | (rw [hy261]; with_reducible exact H) | (have H2_ := (zbb _ _).symm.trans H; rw [hy261]; with_reducible exact H2_) | (have H2_ := (zbb _ _).symm.trans H; with_reducible exact H2_) | with_reducible exact H | (rw [hy261]; exact H) | exact H
   have Ny261 := zad hy261; clear hy261; obtain ⟨ji11, hji11⟩ : ∃ j_ : Int, (mn a1 a2) = j_ := ⟨_, rfl⟩
   replace H : (impl_rankings.l0 k a0 a1 y261 ji11) = some r := by first | (rw [hji11] at H; exact H) | (simp only [hji11] at H ⊢; exact H)
   have hji11_ : (if a2 < a1 then a2 else a1) = ji11 := hji11
   have H' := zad H
   clear H; go_enter Try.func65, Try.ntmps65
   go_wp2_with (first | ((with_reducible refine gate_dst (N := 17) rfl ?_); refine Kd.S_lit (Kd.slice 3 (Kd.int .i64)) _ 22 ?hg (N := 17) ?hd (xs := ([] : List (List Int))) (inner := []) (ok := fun _ => True) (okp := fun _ => True) ?hr ?hp (fun _ hk => hk) trivial (Below.refl _ _) (zcc _) (taah) ?_; (case hd => rfl); (case hg => rfl); (case hr => first | (go_simp; done) | (go_simp; rfl)); (case hp => exact (Reps.none _ _)); intro v262 w12 ho13 hb hg_ hnew_; clear hg_ hnew_; (first | rw [← Ny261.out] at ho13 | (simp only [Int.reduceToNat] at ho13; rw [← Ny261.out] at ho13)); have n0_ := zad (Kd.S_lower ho13 (zbi (taaa))); have n1_ := zad (zbe (taaa) hb); clear HB; have HO263 := n0_; have HB := n1_; clear n0_ n1_ hb ho13))
   go_loopg [7, 8] k (fun kq v7 v8 w' => ∃ (x7_1 : List (List Int)) (x8_1 : Int), v8 = .int .i64 x8_1 ∧ Aside0 (impl_rankings.l0 kq a0 a1 x7_1 x8_1 = some r) ∧ Aside0 (kq ≤ k) ∧ Aside0 (Kd.S (Kd.slice 3 (Kd.int .i64)) 22 w' w.heap.size (fun _ => True) v7 x7_1) ∧ Aside0 (Below w.heap.size w w'))
   case atStart => exact ⟨(y261), (ji11), (by first | rfl | (simp; done) | (simp only [← hji11] <;> (first | rfl | simp)) | (simp [*]; done)), H', ⟨zcc _⟩, ⟨by (with_reducible repeat (first | apply Kd.S_alloc | apply Kd.S_drewN | apply Kd.S_drew)); exact HO263.out⟩, ⟨taaa⟩⟩
   case round =>
    clear H'
    try clear p2
    try clear c4
    try clear c4b0
    try clear c4b1
    try clear c5
    try clear c5b0
    try clear c5b1
    try clear c6
    obtain ⟨x7_1, x8_1, rfl, HA, HK1, HO_7, HB⟩ := hrel
    cases gk with
    | zero => exact absurd HA.out (by simp [impl_rankings.l0])
    | succ k1 =>
     have H := HA.out
     clear HA; simp only [impl_rankings.l0] at H
     have HC14 := zad H; clear H; go_upto_region 7 with (fail)
     go_cut [29] (fun v29 wc => ∃ (kq : Nat) (x29_13 : Bool), v29 = .bool x29_13 ∧ Aside0 (impl_rankings.j1 kq a0 a1 x7_1 x8_1 x29_13 = some r) ∧ Aside0 (kq ≤ k1) ∧ Aside0 (Kd.S (Kd.slice 3 (Kd.int .i64)) 22 wc w.heap.size (fun _ => True) u7 x7_1) ∧ Aside0 (Below w.heap.size w wc))
     case first =>
      have H := HC14.out
      clear HC14; by_cases c15 : x8_1 ≥ 0
      · rw [if_pos c15] at H
        have c15b0 : decide (0 ≤ x8_1) = true := zba c15
        clear c15; (first | rw [c15b0] | (simp only [zbu, zbv]; rw [c15b0]) | skip)
        have H' := zad H
        clear H; go_wp2
        go_meet
        case rel => exact ⟨_, (decide ((wrap64 (x8_1 * a0)) ≥ a1)), (taad), H', ⟨tacd⟩, ⟨tabn⟩, ⟨taaa⟩⟩
      · rw [if_neg c15] at H
        have c15b0 : decide (0 ≤ x8_1) = false := zbh c15
        clear c15; (first | rw [c15b0] | (simp only [zbu, zbv]; rw [c15b0]) | skip)
        have H' := zad H
        clear H; go_wp2
        go_meet
        case rel => exact ⟨_, (false), (taad), H', ⟨tacd⟩, ⟨tabn⟩, ⟨taaa⟩⟩
     case rest =>
      clear HC14; try clear c1
      try clear p2
      try clear c4
      try clear c4b0
      try clear c4b1
      try clear c5
      try clear c5b0
      try clear c5b1
      try clear c6
      try clear p6
      try clear c15
      try clear c15b0
      try clear p2
      obtain ⟨kq, x29_13, rfl, HA, HJ13, HO_7, HB⟩ := hcut
      cases kq with
      | zero => exact absurd HA.out (by simp [impl_rankings.j1])
      | succ kj13 =>
       have H := HA.out
       clear HA; simp only [impl_rankings.j1] at H
       by_cases c16 : x29_13 = true
       · subst c16
         have H1 : ((impl_rankings.f kj13 (wrap64 (a0 - 1)) (wrap64 (a1 - x8_1)) x8_1).bind fun t264 => (impl_rankings.l1 kj13 a0 a1 x7_1 x8_1 t264 (t264.length : Int) 0)) = some r := by rw [if_pos rfl] at H; exact H
         clear H; have H := H1; clear H1; replace H := zay.mp H; obtain ⟨t264, A170, H⟩ := H
         replace H : (impl_rankings.l1 kj13 a0 a1 x7_1 x8_1 t264 (t264.length : Int) 0) = some r := H
         have A17 := zad A170; clear A170; have H' := zad H
         clear H; go_wp2_with (first | ((with_reducible refine zbf (f := 65) rfl ?_); refine zbl (some 38) rfl rfl Try.func65 (by kernel_rfl) rfl #[.int .i64 (wrap64 (a0 - 1)), .int .i64 (wrap64 (a1 - x8_1)), .int .i64 x8_1] rfl (taac) ?_; (with_reducible refine (ih kj13 (by have := HK1.out; have := HJ13.out; omega) (wrap64 (a0 - 1)) (wrap64 (a1 - x8_1)) x8_1 t264 _ A17.out).mono ?_); rintro e w18 ⟨v265, rfl, ho0, hb⟩; refine ⟨_, rfl, ?_⟩; have n0_ := zad (Kd.S_elder' (tabn) (Kd.S_base ho0) hb); have n1_ := zad (Kd.S_lower (Kd.S_new' ho0 (Kd.S_lt (tabn))) (zbi (taaa))); have n2_ := zad (zbe (taaa) hb); clear HO_7 HB; have HO_7 := n0_; have HO266 := n1_; have HB := n2_; clear n0_ n1_ n2_; (try clear hb); (try clear hb2); (try clear hk); (try clear hi); (try clear ho0); obtain ⟨Ao19, co19, eo19⟩ := Kd.S_slice HO266.out; subst eo19))
         go_loopg [7, 40] kj13 (fun kq v7 v40 w' => ∃ (x7_3 : List (List Int)) (x40_3 : Int), v40 = .int .i64 x40_3 ∧ Aside0 (impl_rankings.l1 kq a0 a1 x7_3 x8_1 t264 (t264.length : Int) x40_3 = some r) ∧ Aside0 (kq ≤ kj13) ∧ Aside0 (Kd.S (Kd.slice 3 (Kd.int .i64)) 22 w' w.heap.size (fun k_ => some k_ ≠ ((.slice Ao19 t264.length co19) : Value).ownBlock) v7 x7_3) ∧ Aside0 (Kd.S (Kd.slice 3 (Kd.int .i64)) 22 w' w.heap.size (fun k_ => some k_ ≠ (v7 : Value).ownBlock) (.slice Ao19 t264.length co19) t264) ∧ Aside0 (Below w.heap.size w w'))
         case atStart => exact ⟨(x7_1), (0), (taad), H', ⟨zcc _⟩, ⟨by (with_reducible repeat (first | apply Kd.S_alloc | apply Kd.S_drewN | apply Kd.S_drew)); exact Kd.S_mono HO_7.out (fun _ hk => hk.2)⟩, ⟨by (with_reducible repeat (first | apply Kd.S_alloc | apply Kd.S_drewN | apply Kd.S_drew)); exact Kd.S_mono HO266.out (fun _ hk => hk.2)⟩, ⟨taaa⟩⟩
         case round =>
          clear H'
          try clear c1
          try clear p2
          try clear c4
          try clear c4b0
          try clear c4b1
          try clear c5
          try clear c5b0
          try clear c5b1
          try clear c6
          try clear p6
          try clear c15
          try clear c15b0
          try clear c16
          try clear p2
          try clear p6
          obtain ⟨x7_3, x40_3, rfl, HA, HK3, HO_7, HO_38, HB⟩ := hrel
          cases gk with
          | zero => exact absurd HA.out (by simp [impl_rankings.l1])
          | succ k3 =>
           have H := HA.out
           clear HA; simp only [impl_rankings.l1] at H
           by_cases c20 : x40_3 < (t264.length : Int)
           · rw [if_pos c20] at H
             have c20b0 : decide (x40_3 < (t264.length : Int)) = true := zba c20
             clear c20; by_cases c21 : 0 ≤ x40_3
             · rw [if_pos c21] at H
               have c21b0 : decide (0 ≤ x40_3) = true := zba c21
               clear c21; by_cases c22 : x40_3 < (t264.length : Int)
               · rw [if_pos c22] at H
                 have c22b0 : decide (x40_3 < (t264.length : Int)) = true := zba c22
                 clear c22; obtain ⟨y268, hy268⟩ : ∃ y_ : List Int, y_ = (([x8_1] : List Int)) := ⟨_, rfl⟩
                 replace H : (if y268.length + (rd_L1 t264 x40_3).length < 17592186044416 then (if x7_3.length < 5864062014805 then (impl_rankings.l1 k3 a0 a1 (x7_3 ++ [(y268 ++ (rd_L1 t264 x40_3))]) x8_1 t264 (t264.length : Int) (wrap64 (x40_3 + 1))) else (none)) else (none)) = some r := by first | (rw [hy268]; with_reducible exact H) | (have H2_ := (zbb _ _).symm.trans H; rw [hy268]; with_reducible exact H2_) | (have H2_ := (zbb _ _).symm.trans H; with_reducible exact H2_) | with_reducible exact H | (rw [hy268]; exact H) | exact H
                 have Ny268 := zad hy268; clear hy268; by_cases c23 : y268.length + (rd_L1 t264 x40_3).length < 17592186044416
                 · rw [if_pos c23] at H
                   have LMc23 := zad c23; clear c23; obtain ⟨y271, hy271⟩ : ∃ y_ : List Int, y_ = (y268 ++ (rd_L1 t264 x40_3)) := ⟨_, rfl⟩
                   replace H : (if x7_3.length < 5864062014805 then (impl_rankings.l1 k3 a0 a1 (x7_3 ++ [y271]) x8_1 t264 (t264.length : Int) (wrap64 (x40_3 + 1))) else (none)) = some r := by first | (rw [hy271]; with_reducible exact H) | (have H2_ := (zbb _ _).symm.trans H; rw [hy271]; with_reducible exact H2_) | (have H2_ := (zbb _ _).symm.trans H; with_reducible exact H2_) | with_reducible exact H | (rw [hy271]; exact H) | exact H
                   have Ny271 := zad hy271; clear hy271; by_cases c24 : x7_3.length < 5864062014805
                   · rw [if_pos c24] at H
                     have LMc24 := zad c24; clear c24; obtain ⟨y274, hy274⟩ : ∃ y_ : List (List Int), y_ = (x7_3 ++ [y271]) := ⟨_, rfl⟩
                     replace H : (impl_rankings.l1 k3 a0 a1 y274 x8_1 t264 (t264.length : Int) (wrap64 (x40_3 + 1))) = some r := by first | (rw [hy274]; with_reducible exact H) | (have H2_ := (zbb _ _).symm.trans H; rw [hy274]; with_reducible exact H2_) | (have H2_ := (zbb _ _).symm.trans H; with_reducible exact H2_) | with_reducible exact H | (rw [hy274]; exact H) | exact H
                     have Ny274 := zad hy274; clear hy274; have H' := zad H
                     clear H; have p267 : 0 ≤ (x40_3 : Int) := zas (taab)
                     have q267 : x40_3 < (t264.length : Int) := zas (taab)
                     obtain ⟨ad267, A267_0, c267_0, e267, hx267_0, hl267_0, hi267_0⟩ := at_L1 (Kd.S_reads' HO_38.out).2.2 x40_3 p267 q267
                     cases e267
                     obtain ⟨ce267, hce267, hMe267, hcc267⟩ := Kd.S_get HO_38.out [] x40_3 p267 (by first | exact q267 | exact zas (taab) | (have e_ := (Kd.S_reads' HO_38.out).1; omega))
                     obtain ⟨ve267_0, rfl, ge267_0⟩ := hMe267
                     have hv267_0 := hcc267 0 _ rfl
                     rw [Nat.add_zero, show ((Kd.slice 3 (Kd.int .i64))).sz = 1 from rfl, Nat.mul_one] at hv267_0
                     replace hv267_0 := zbc (hv267_0.symm.trans hx267_0)
                     rw [hv267_0] at ge267_0
                     have HL267_0 := zad (show Kd.R (Kd.int .i64) 3 _ _ _ _ (rd_L1 t264 x40_3) from ge267_0)
                     clear hv267_0 ge267_0 hcc267 hce267; have HR267_0 := zad hi267_0; have HC267_0 := zad hl267_0; clear hi267_0 hl267_0; replace p267 := eq_true p267
                     replace q267 := eq_true q267
                     go_wp2_with (first | ((with_reducible refine gate_dst (N := 46) rfl ?_); refine Kd.R_lit (Kd.int .i64) _ 3 ?hg (N := 46) ?hd (xs := ([x8_1] : List Int)) (inner := [.int .i64 x8_1]) (ok := fun _ => True) (okp := fun _ => True) ?hr ?hp (fun _ hk => hk) trivial (Below.refl _ _) (zcc _) (taah) ?_; (case hd => rfl); (case hg => rfl); (case hr => first | (go_simp; done) | (go_simp; rfl)); (case hp => exact (Reps.one (show Kd.M (Kd.int .i64) _ _ _ x8_1 [.int .i64 x8_1] from rfl) (Reps.none _ _))); intro v269 w25 ho26 hb hg_ hnew_; clear hg_ hnew_; (first | rw [← Ny268.out] at ho26 | (simp only [Int.reduceToNat] at ho26; rw [← Ny268.out] at ho26)); have n0_ := zad (Kd.S_elder' (tabn) (zca ho26) hb); have n1_ := zad (Kd.S_elder' (tacx) (zca ho26) hb); have n2_ := zad (zby (tacm) (zca ho26) hb); have n3_ := zad (zbs (zbz ho26 (zcb (tacm))) (zbi (taaa))); have n4_ := zad (Kd.C_below (tadu) hb); have n5_ := zad (zbe (taaa) hb); clear HO_7 HO_38 HL267_0 HR267_0 HB; have HO_7 := n0_; have HO_38 := n1_; have HL267_0 := n2_; have HO270 := n3_; have HR267_0 := n4_; have HB := n5_; clear n0_ n1_ n2_ n3_ n4_ n5_ hb ho26) | ((with_reducible refine gate_builtin (b := .append) (xs := #[.tmp 46, .tmp 47]) rfl ?_); at_builtin; refine Kd.R_append_rows (Kd.int .i64) (w0 := w) w.heap.size rfl (.tmp 46) (.tmp 47) 22 3 (.int .i64 0) 8 rfl Try.underlying22 info3 rfl (by decide) (by omega) v269 y268 (rd_L1 t264 x40_3) _ _ _ (fun k_ => some k_ ≠ (.slice A267_0 (rd_L1 t264 x40_3).length c267_0 : Value).ownBlock) (fun _ => False) rfl rfl ?aO ?aR (fun _ _ h => h) (fun _ h => h.elim) ?aF ?aB ?aS ?aL ?_; (case aR => repeat (first | exact (tadu) | (with_reducible refine zal ?_ _) | (with_reducible refine zam ?_ _) | (with_reducible refine zan ?_))); (case aB => exact (taaa)); (case aF => exact (fun k_ hk => Kd.fresh' (zcb (tacm)) k_ hk)); (case aO => exact (by (with_reducible repeat (first | apply zai | apply zaj | apply zak)); exact zbo HO270.out (fun _ hk => hk.2))); (case aS => exact (zbi (taaa))); (case aL => have := LMc23.out; omega); intro v272 w27 ho hb hg hat; rw [← Ny271.out] at ho; have n0_ := zad (Kd.S_after (ok := (fun k_ => some k_ ≠ (.slice (some ad267) t264.length co19 : Value).ownBlock)) (tabn) hg hat); have n1_ := zad (Kd.S_after (ok := (fun k_ => some k_ ≠ (u7 : Value).ownBlock)) (tacx) hg hat); have n2_ := zad (Kd.R_after (ok := (fun k_ => some k_ ≠ (u7 : Value).ownBlock ∧ some k_ ≠ (.slice (some ad267) t264.length co19 : Value).ownBlock)) (tacm) hg hat); have n3_ := zad (hb); have n4_ := zad (ho); clear HO_7 HO_38 HL267_0 HB HO270; have HO_7 := n0_; have HO_38 := n1_; have HL267_0 := n2_; have HB := n3_; have HO273 := n4_; clear n0_ n1_ n2_ n3_ n4_ ho hb hg hat; obtain ⟨Ao29, co29, eo29⟩ := zbt HO273.out; subst eo29) | ((with_reducible refine gate_builtin (b := .append) (xs := #[.tmp 44, .tmp 49]) rfl ?_); at_builtin; refine Kd.S_append (Kd.slice 3 (Kd.int .i64)) (w0 := w) w.heap.size rfl (.tmp 44) (.tmp 49) 23 22 (.slice none 0 0) 24 rfl Try.underlying23 info22 rfl (by decide) (by omega) u7 x7_3 y271 [.slice Ao29 y271.length co29] (fun k_ => some k_ ≠ (.slice (some ad267) t264.length co19 : Value).ownBlock) (fun k_ => some k_ = (.slice Ao29 y271.length co29 : Value).ownBlock) rfl rfl ?aP (fun k_ hk_ => ((zbo (ok' := fun k_ => ((fun k_ => some k_ ≠ (.slice (some ad267) t264.length co19 : Value).ownBlock)) k_ ∧ some k_ ≠ (u7 : Value).ownBlock) (Kd.R_apart' (Kd.R_apart' (HO273.out) (Kd.S_typed HO_38.out) (by decide)) (Kd.S_typed HO_7.out) (by decide)) (fun k_ hk => ⟨hk.1.2, hk.2⟩))).1 k_ hk_.symm) ?aF ?aO ?aB ?aS ?aL ?_; (case aP => exact Kd.M_row (zbo (Kd.R_tight rfl (zbo (ok' := fun k_ => ((fun k_ => some k_ ≠ (.slice (some ad267) t264.length co19 : Value).ownBlock)) k_ ∧ some k_ ≠ (u7 : Value).ownBlock) (Kd.R_apart' (Kd.R_apart' (HO273.out) (Kd.S_typed HO_38.out) (by decide)) (Kd.S_typed HO_7.out) (by decide)) (fun k_ hk => ⟨hk.1.2, hk.2⟩))) (fun _ h_ => h_))); (case aB => exact (taaa)); (case aF => exact (fun k_ hk => Kd.fresh' (Kd.S_lt (tacx)) k_ hk)); (case aO => exact (by (with_reducible repeat (first | apply Kd.S_alloc | apply Kd.S_drewN | apply Kd.S_drew)); exact Kd.S_mono HO_7.out (fun k_ hk => ⟨hk.1, fun e_ => hk.2 e_⟩))); (case aS => exact (zbi (taaa))); (case aL => have := LMc24.out; omega); intro v275 w28 ho hb hg hat; rw [← Ny274.out] at ho; have n0_ := zad (Kd.S_after (ok := (fun k_ => some k_ ≠ (.slice Ao29 y271.length co29 : Value).ownBlock)) (by (with_reducible repeat (first | apply Kd.S_alloc | apply Kd.S_drewN | apply Kd.S_drew)); exact Kd.S_mono HO_38.out (fun _ hk => ⟨hk.2, hk.1⟩)) hg hat); have n1_ := zad (Kd.R_after (ok := (fun k_ => some k_ ≠ (.slice (some ad267) t264.length co19 : Value).ownBlock ∧ some k_ ≠ (.slice Ao29 y271.length co29 : Value).ownBlock)) (by (with_reducible repeat (first | apply zai | apply zaj | apply zak)); exact zbo HL267_0.out (fun _ hk => ⟨⟨hk.1.2, hk.2⟩, hk.1.1⟩)) hg hat); have n2_ := zad (hb); have n3_ := zad (ho); clear HO_38 HL267_0 HB HO_7 HO273; have HO_38 := n0_; have HL267_0 := n1_; have HB := n2_; have HO276 := n3_; clear n0_ n1_ n2_ n3_ ho hb hg hat))
                     go_roundg k3
                     case measure => have := HK1.out; have := HJ13.out; have := HK3.out; omega
                     case rel => exact ⟨(y274), (wrap64 (x40_3 + 1)), (taad), H', ⟨by have := HK1.out; have := HJ13.out; have := HK3.out; omega⟩, ⟨by (with_reducible repeat (first | apply Kd.S_alloc | apply Kd.S_drewN | apply Kd.S_drew)); exact HO276.out⟩, ⟨by (with_reducible repeat (first | apply Kd.S_alloc | apply Kd.S_drewN | apply Kd.S_drew)); exact Kd.S_mono HO_38.out (fun _ hk => hk.2)⟩, ⟨taaa⟩⟩
                   · rw [if_neg c24] at H
                     exact absurd H (taah)
                 · rw [if_neg c23] at H
                   exact absurd H (taah)
               · rw [if_neg c22] at H
                 exact absurd H (taah)
             · rw [if_neg c21] at H
               exact absurd H (taah)
           · rw [if_neg c20] at H
             have c20b0 : decide (x40_3 < (t264.length : Int)) = false := zbh c20
             clear c20; have H' := zad H
             clear H; go_wp2
             go_roundg k3
             case measure => have := HK1.out; have := HJ13.out; have := HK3.out; omega
             case rel => exact ⟨(x7_3), (wrap64 (x8_1 - 1)), (taad), H', ⟨by have := HK1.out; have := HJ13.out; have := HK3.out; omega⟩, ⟨by (with_reducible repeat (first | apply Kd.S_alloc | apply Kd.S_drewN | apply Kd.S_drew)); exact Kd.S_mono HO_7.out (fun _ hk => trivial)⟩, ⟨taaa⟩⟩
       · replace c16 := zbg.mpr c16
         subst c16; have H1 : (some x7_1) = some r := by rw [if_neg (show ¬ (false = true) by decide)] at H; exact H
         clear H; have H := H1; clear H1; obtain rfl := zbc H
         go_wp2
         go_ret
         exact ⟨_, by first | rfl | (simp [errW_none, errW_some] <;> rfl) | (simp only [← hji11]; first | rfl | (simp [errW_none, errW_some] <;> rfl)) | (simp [*, errW_none, errW_some] <;> rfl), tabn, taaa⟩
def GB (w W : World) (g : Nat) : Prop := w.grownBy W (some g)
theorem gb_refl (w : World) (g : Nat) : GB w w g := World.grownBy.refl w _
theorem gb_trans {w W W' : World} {g : Nat} (h : GB w W g) (k : GB W W' g) : GB w W' g := ⟨k.os.trans h.os, k.tape.trans h.tape, k.output.trans h.output, Nat.le_trans h.size k.size, fun i hi hne => (k.block i (Nat.lt_of_lt_of_le hi h.size) hne).trans (h.block i hi hne)⟩
theorem gb_below {W W' : World} {g : Nat} (h : Below W.heap.size W W') : GB W W' g := ⟨h.os, h.tape, h.output, h.size, fun i hi _ => h.block i hi⟩
theorem below_gb {w W W' : World} {g : Nat} (h : Below w.heap.size w W) (k : GB W W' g) (hg : w.heap.size ≤ g) : Below w.heap.size w W' := ⟨k.os.trans h.os, k.tape.trans h.tape, k.output.trans h.output, Nat.le_trans h.size k.size, fun i hi => (k.block i (Nat.lt_of_lt_of_le hi h.size) (by intro e; injection e with e; omega)).trans (h.block i hi)⟩
theorem gb_set0 (W : World) (g i : Nat) (u : Value) : GB W (W.setCell ⟨g, i, none⟩ u) g := ⟨rfl, rfl, rfl, taah, fun k hk hne => Below.heap_setCell W ⟨g, i, none⟩ u k (by intro e; exact hne (congrArg some e))⟩
section
open Go.Lib
def keptL {α : Type} [Inhabited α] (kp : Nat → Bool) (xs : List α) : List α := ((List.range xs.length).filter kp).map fun j => xs[j]!
theorem keptL_length {α : Type} [Inhabited α] (kp : Nat → Bool) (xs : List α) (cur : Array Value) : (keptL kp xs).length = (keptUpTo kp cur xs.length).length := by simp [keptL, keptUpTo]
theorem idx_at {l : List Nat} (h : l.Nodup) {q : Nat} (hq : q < l.length) : l.idxOf l[q] = q := by
 induction l generalizing q with
 | nil => simp at hq
 | cons a l ih =>
  cases q with
  | zero => simp
  | succ q =>
   have hn := List.nodup_cons.1 h
   have hq' : q < l.length := by simpa using hq
   have hne : ¬ a = l[q] := fun e => hn.1 (by rw [e]; exact List.getElem_mem hq')
   have hb : (a == l[q]) = false := zbm.2 hne
   rw [List.getElem_cons_succ, List.idxOf_cons, hb, cond_false, ih hn.2 hq']
theorem S_kept_rows {α : Type} [Inhabited α] {d : Kd α} (hd1 : d.sz = 1) {e : Nat} {w w' : World} {base : Nat} {ok : Nat → Prop} {blk cap : Nat} {xs : List α} {kp : Nat → Bool} {cur cur' : Array Value}
 (hS : Kd.S d e w base ok (.slice (some ⟨blk, 0, none⟩) xs.length cap) xs) (hheap : w.heap[blk]? = some (.cells cur e (0, 0))) (hG : GB w w' blk) (hheap' : w'.heap[blk]? = some (.cells cur' e (0, 0))) (hsz : cur'.size = cur.size)
 (hlow : ∀ j, j < (keptUpTo kp cur xs.length).length → (keptUpTo kp cur xs.length)[j]? = some cur'[j]!) :
 Kd.S d e w' base ok (.slice (some ⟨blk, 0, none⟩) (keptL kp xs).length cap) (keptL kp xs) := by
 obtain ⟨f, h0, inner, ho, hr⟩ := hS
 have hm : (keptL kp xs).length = (keptUpTo kp cur xs.length).length := keptL_length kp xs cur
 have hidx : ((List.range xs.length).filter kp).Nodup := List.Pairwise.filter _ List.nodup_range
 have hmle : (keptL kp xs).length ≤ xs.length := by
  unfold keptL
  rw [List.length_map]
  exact Nat.le_trans (List.length_filter_le _ _) (taah)
 rw [List.length_zipIdx] at ho
 obtain ⟨hil, hown⟩ := ho
 have hsz1 : (Kd.tag f d).sz = 1 := hd1
 rw [hsz1, Nat.mul_one] at hil
 rcases hown with ⟨he, _⟩ | ⟨g, cap2, cur2, he, hb, hh, hn, hc, hcs, htk⟩
 · cases he
 injection he with e1 e2 e3
 injection e1 with e1
 injection e1 with e1 _ _
 subst e1; subst e3; rw [hheap] at hh
 injection hh with hh
 injection hh with hh1 _ _
 subst hh1; rw [hsz1, Nat.mul_one] at hcs htk
 refine ⟨fun b => ((List.range xs.length).filter kp).idxOf (f b), h0, keptUpTo kp cur xs.length, ⟨?_, .inr ⟨blk, cap, cur', by rw [List.length_zipIdx], hb, hheap', ?_, hc, ?_, ?_⟩⟩, ?_, ?_⟩
 · rw [List.length_zipIdx, hm]
   show _ = _ * d.sz
   rw [hd1, Nat.mul_one]
 · rw [List.length_zipIdx]
   omega
 · show _ = _ * d.sz
   rw [hd1, Nat.mul_one, hsz, hcs]
 · rw [List.length_zipIdx]
   show List.take ((keptL kp xs).length * d.sz) _ = _
   rw [hd1, Nat.mul_one, hm]
   apply List.ext_getElem?
   intro j
   by_cases hj : j < (keptUpTo kp cur xs.length).length
   · rw [List.getElem?_take, if_pos hj, hlow j hj, getElem!_pos cur' j (by omega), Array.getElem?_toList, Array.getElem?_eq_getElem (by omega)]
   · rw [List.getElem?_take, if_neg hj, List.getElem?_eq_none (by omega)]
 · rw [List.length_zipIdx, hm]
   show _ = _ * d.sz
   rw [hd1, Nat.mul_one]
 · intro q p hq
   rw [List.getElem?_zipIdx, Nat.zero_add] at hq
   obtain ⟨x, hx, rfl⟩ := Option.map_eq_some_iff.1 hq
   obtain ⟨hql, hxe⟩ := List.getElem?_eq_some_iff.1 hx
   have hqi : q < ((List.range xs.length).filter kp).length := by
    unfold keptL at hql
    rwa [List.length_map] at hql
   obtain ⟨j, hje⟩ : ∃ j, j = ((List.range xs.length).filter kp)[q] := ⟨_, rfl⟩
   have hjm : j ∈ (List.range xs.length).filter kp := by rw [hje]; exact List.getElem_mem hqi
   have hjn : j < xs.length := List.mem_range.1 (List.mem_filter.1 hjm).1
   have hxj : x = xs[j] := by
    rw [← hxe]
    simp only [keptL, List.getElem_map]
    rw [← hje, getElem!_pos xs j hjn]
   have hM := hr.2 j (xs[j], j) (Kd.zip_at (List.getElem?_eq_getElem hjn))
   rw [hsz1, Nat.mul_one] at hM
   have hcell : (inner.drop j).take 1 = [cur[j]!] := by
    rw [← htk, List.drop_take, List.take_take, Nat.min_eq_left (by omega)]
    have : j < cur.toList.length := by rw [Array.length_toList]; omega
    rw [List.drop_eq_getElem_cons this, List.take_succ_cons, List.take_zero, getElem!_pos cur j (by simpa using this), Array.getElem_toList]
   have hcell' : ((keptUpTo kp cur xs.length).drop q).take 1 = [cur[j]!] := by
    have hql' : q < (keptUpTo kp cur xs.length).length := by rw [← hm]; exact hql
    rw [List.drop_eq_getElem_cons hql', List.take_succ_cons, List.take_zero]
    congr 1
    simp only [keptUpTo, List.getElem_map]
    rw [← hje]
   rw [hcell] at hM
   show (Kd.tag _ d).M w' base _ (x, q) (((keptUpTo kp cur xs.length).drop (q * (Kd.tag _ d).sz)).take (Kd.tag _ d).sz)
   have hs2 : ∀ f', (Kd.tag f' d).sz = 1 := fun _ => hd1
   rw [hs2, Nat.mul_one, hcell', hxj]
   have hM2 : d.M w base (fun k => (ok k ∧ some k ≠ (Value.slice (some ⟨blk, 0, none⟩) xs.length cap).ownBlock) ∧ f k = j) xs[j] [cur[j]!] := hM
   have hM3 := Kd.M_step (w1 := w') hM2 (fun k hk hlt => hG.block k hlt hk.1.2)
   exact d.M_mono (fun k hk => ⟨hk.1, by show List.idxOf (f k) _ = q; rw [hk.2, hje, idx_at hidx hqi]⟩) hM3
end
section
open Go.Shelf Go.Lib
theorem anyIdxB {P : Program} {ρ : Ren} (L : SlLaysH.n6 P ρ) (ad : Addr) (n c : Nat) (vs : Nat → Value) (ps : Nat → Bool) (g : Nat) (lb : Array Value) (w : World) (eg : ∀ args w, (callFunc g args).run P w = .ok (.enter g args) w) (hbig : n ≤ 9223372036854775807)
 (hcell : ∀ j, j < n → w.cell? (ad.add j) = some (vs j)) (hcall : ∀ j, j < n → ∀ W, Below w.heap.size w W → Calls P g (#[vs j] ++ lb) W fun e w' => e = .returned (.bool (ps j)) ∧ Below W.heap.size W w') :
 Calls P (ρ.f 6) #[.slice (some ad) n c, .func (.func g) #[] lb] w fun e w' => ∃ i : Int, e = .returned (.int .i64 i) ∧ ((i = -1 ∧ ∀ j, j < n → ps j = false) ∨ ∃ k : Nat, k < n ∧ i = (k : Int) ∧ ps k = true ∧ ∀ j, j < k → ps j = false) ∧ Below w.heap.size w w' := by
 have mixed := L.mixed; have t0 := L.t0; have a0 := L.a0; have z0 := L.z0; have v0 := L.v0; have t3 := L.t3; have a3 := L.a3; have z3 := L.z3; have v3 := L.v3; have t4 := L.t4; have a4 := L.a4; have z4 := L.z4; have v4 := L.v4; have t22 := L.t22; have a22 := L.a22; have z22 := L.z22; have v22 := L.v22; have a23 := L.a23; have z23 := L.z23; have t25 := L.t25; have a25 := L.a25; have z25 := L.z25; have v25 := L.v25
 have HC := zad hcell; have HF := zad hcall; have HB := zad (Below.refl w.heap.size w)
 clear hcell hcall; obtain ⟨_, _, FG⟩ := L.f6
 go_enter FG, SlBodyH.n6_ntmps ρ
 go_wp2
 go_loopg [5, 8] n (fun gg _ s8 wr => ∃ kk : Nat, kk ≤ n ∧ n - kk ≤ gg ∧ s8 = .int .i64 kk ∧ Aside0 (Below w.heap.size w wr) ∧ Aside0 (∀ j, j < kk → ps j = false))
 case atStart => exact ⟨0, Nat.zero_le _, by omega, rfl, ⟨taaa⟩, ⟨fun j hj => absurd hj (Nat.not_lt_zero _)⟩⟩
 case round =>
  clear HB; obtain ⟨kk, hkk, hg, rfl, HB, HA⟩ := hrel
  by_cases hlt : kk < n
  · have hltz : (kk : Int) < (n : Int) := by omega
    have hc0 := HC.out kk hlt
    have hce := (HB.out.cell (zaz w _ hc0)).trans hc0
    have hca := HF.out kk hlt wr HB.out
    clear hc0; generalize vs kk = v at hce hca
    cases hq : ps kk with
    | true =>
     rw [hq] at hca
     go_wp2_with (go_at_fn g; refine hca.mono ?_; rintro e w' ⟨rfl, hb⟩; have HB2 := zad (zbe HB.out hb); clear hb)
     go_ret
     exact ⟨_, rfl, .inr ⟨kk, hlt, rfl, hq, HA.out⟩, HB2.out⟩
    | false =>
     rw [hq] at hca
     go_wp2_with (go_at_fn g; refine hca.mono ?_; rintro e w' ⟨rfl, hb⟩; have HB2 := zad (zbe HB.out hb); clear hb)
     go_roundg (n - (kk + 1))
     case measure => omega
     case rel =>
      refine ⟨kk + 1, by omega, by omega, by go_num, ⟨HB2.out⟩, ⟨fun j hj => ?_⟩⟩
      by_cases e : j = kk
      · subst e
        exact hq
      · exact HA.out j (by omega)
  · have hltz : ¬ (kk : Int) < (n : Int) := by omega
    have : kk = n := by omega
    subst this; go_wp2
    go_ret
    exact ⟨_, rfl, .inl ⟨rfl, HA.out⟩, HB.out⟩
theorem addr0_add (b j : Nat) : (⟨b, 0, none⟩ : Addr).add j = ⟨b, j, none⟩ := by
 unfold Addr.add
 split
 · next h => rw [h]
 · simp
theorem heap_setCells {g : Nat} {t : TypeId} : ∀ (vs : List Value) (o : Nat) (w : World) (cs : Array Value), w.heap[g]? = some (.cells cs t (0, 0)) → ∃ cs', (w.setCells g o vs).heap[g]? = some (.cells cs' t (0, 0)) ∧ cs'.size = cs.size ∧ (∀ j, j < o → cs'[j]! = cs[j]!) ∧ GB w (w.setCells g o vs) g
 | [], o, w, cs, h => ⟨cs, h, rfl, fun _ _ => rfl, gb_refl _ _⟩
 | v :: vs, o, w, cs, h => by
  obtain ⟨cs', h1, h2, h3, h4⟩ := heap_setCells vs (o + 1) (w.setCell ⟨g, o, none⟩ v) _ (blk_set h o v)
  refine ⟨cs', h1, by rw [h2]; simp, fun j hj => ?_, gb_trans (gb_set0 w g o v) h4⟩
  rw [h3 j (by omega)]
  exact Go.Sort.getElem!_set_other cs o j v (by omega)
theorem first_is {kp : Nat → Bool} {k0 n : Nat} {i : Int} (hd : kp k0 = false) (hall : ∀ j, j < k0 → kp j = true) (hk : k0 < n) (h : (i = -1 ∧ ∀ j, j < n → (!kp j) = false) ∨ ∃ k : Nat, k < n ∧ i = (k : Int) ∧ (!kp k) = true ∧ ∀ j, j < k → (!kp j) = false) : i = (k0 : Int) := by
 rcases h with ⟨_, hn⟩ | ⟨k, hkn, rfl, hp, ha⟩
 · have := hn k0 hk
   rw [hd] at this
   cases this
 · have h1 : ¬ k < k0 := fun h => by rw [hall k h] at hp; cases hp
   have h2 : ¬ k0 < k := fun h => by have := ha k0 h; rw [hd] at this; cases this
   omega
theorem none_is {kp : Nat → Bool} {n : Nat} {i : Int} (hall : ∀ j, j < n → kp j = true) (h : (i = -1 ∧ ∀ j, j < n → (!kp j) = false) ∨ ∃ k : Nat, k < n ∧ i = (k : Int) ∧ (!kp k) = true ∧ ∀ j, j < k → (!kp j) = false) : i = -1 := by
 rcases h with ⟨e, _⟩ | ⟨k, hkn, rfl, hp, _⟩
 · exact e
 · rw [hall k hkn] at hp
   cases hp
theorem gb_heap {W W' : World} {blk : Nat} {o : Obj} (hb : Below W.heap.size W W') (h : W.heap[blk]? = some o) : W'.heap[blk]? = some o := (hb.block blk (blk_lt h)).trans h
theorem delRows {P : Program} {ρ : Ren} (L : SlLaysH.n10 P ρ) (blk n cap : Nat) (et : TypeId) (cur : Array Value) (kp : Nat → Bool) (g : Nat) (lb : Array Value) (w : World) (eg : ∀ args w, (callFunc g args).run P w = .ok (.enter g args) w) (v23 : ∀ w, (zeroValue (ρ.t 23)).run P w = .ok (.slice none 0 0) w)
 (hheap : w.heap[blk]? = some (.cells cur et (0, 0))) (hsz : cur.size = cap) (hn : n ≤ cap) (hcap : cap ≤ 9223372036854775807) (hsl : ∀ j, j < n → ∃ A k c, cur[j]! = .slice A k c)
 (hcall : ∀ j, j < n → ∀ W, GB w W blk → Calls P g (#[cur[j]!] ++ lb) W fun e w' => e = .returned (.bool (!kp j)) ∧ Below W.heap.size W w') :
 Calls P (ρ.f 10) #[.slice (some ⟨blk, 0, none⟩) n cap, .func (.func g) #[] lb] w fun e w' => e = .returned (.slice (some ⟨blk, 0, none⟩) (keptUpTo kp cur n).length cap) ∧ GB w w' blk ∧ ∃ cur', w'.heap[blk]? = some (.cells cur' et (0, 0)) ∧ cur'.size = cap ∧ ∀ j, j < (keptUpTo kp cur n).length → (keptUpTo kp cur n)[j]? = some cur'[j]! := by
 have mixed := L.mixed; have t0 := L.t0; have a0 := L.a0; have z0 := L.z0; have v0 := L.v0; have t3 := L.t3; have a3 := L.a3; have z3 := L.z3; have v3 := L.v3; have t4 := L.t4; have a4 := L.a4; have z4 := L.z4; have v4 := L.v4; have t22 := L.t22; have a22 := L.a22; have z22 := L.z22; have v22 := L.v22; have a23 := L.a23; have z23 := L.z23; have t25 := L.t25; have a25 := L.a25; have z25 := L.z25; have v25 := L.v25
 have e6 : ∀ args w, (callFunc (ρ.f 6) args).run P w = .ok (.enter (ρ.f 6) args) w := L.f6.enters rfl
 have hcl0 : ∀ (A : Option Addr) (k c : Nat), (Value.slice A k c).cells = #[Value.slice A k c] := fun _ _ _ => rfl
 have cellAt : ∀ (W : World) (dk : Array Value), W.heap[blk]? = some (.cells dk et (0, 0)) → dk.size = cap → ∀ j, j < cap → W.cell? ⟨blk, j, none⟩ = some dk[j]! := fun W dk h hs j hj => by
  rw [blk_cell h j, getElem!_pos dk j (by omega), Array.getElem?_eq_getElem (by omega)]
 have hIF := anyIdxB (P := P) (ρ := ρ) { L with } ⟨blk, 0, none⟩ n cap (fun j => cur[j]!) (fun j => !kp j) g lb w eg (by omega) (fun j hj => by
  rw [addr0_add]
  exact cellAt w cur hheap hsz j (by omega)) (fun j hj W hb => hcall j hj W (gb_below hb))
 have HIF := zad hIF; have HC := zad hcall; have HH := zad hheap; have HCA := zad cellAt; have HSL := zad hsl; clear hIF hcall hheap cellAt hsl; by_cases hany : ∃ k, k < n ∧ kp k = false
 · obtain ⟨k0, hk0, hd0, hall⟩ : ∃ k0, k0 < n ∧ kp k0 = false ∧ ∀ j, j < k0 → kp j = true := by
    obtain ⟨k, hk, hd⟩ := hany
    induction k using Nat.strongRecOn with
    | _ k ih =>
     by_cases h : ∃ j, j < k ∧ kp j = false
     · obtain ⟨j, hj, hdj⟩ := h
       exact ih j hj (by omega) hdj
     · exact ⟨k, hk, hd, fun j hj => by
        cases e : kp j with
        | true => rfl
        | false => exact (h ⟨j, hj, e⟩).elim⟩
   have HALL := zad hall; have HD0 := zad hd0; have hne1 : ((k0 : Int) == -1) = false := zbm.2 (by omega)
   clear hall hd0 hany; obtain ⟨_, _, FG⟩ := L.f10
   go_enter FG, SlBodyH.n10_ntmps ρ
   go_wp2_with (go_at_fn (ρ.f 6); refine HIF.out.mono ?_; rintro e w1 ⟨i1, rfl, hi1, hb1⟩; obtain rfl : i1 = (k0 : Int) := first_is HD0.out HALL.out hk0 hi1; have HB1 := zad hb1; have HH1 := zad (gb_heap hb1 HH.out); clear hi1 hb1)
   go_loopg [5, 6, 7] n (fun gg s5 s6 _ wr => ∃ (i j : Nat) (dk : Array Value), s5 = .int .i64 i ∧ s6 = .int .i64 j ∧ j ≤ n ∧ n - j ≤ gg ∧ i ≤ j ∧ Aside0 (GB w wr blk) ∧ Aside0 (wr.heap[blk]? = some (.cells dk et (0, 0))) ∧ Aside0 (KeptInv kp cur j i dk))
   case atStart => exact ⟨k0, k0 + 1, cur, rfl, by go_num, by omega, by omega, by omega, ⟨gb_below HB1.out⟩, ⟨HH1.out⟩, ⟨KeptInv.start HALL.out HD0.out⟩⟩
   case round =>
    obtain ⟨i, j, dk, rfl, rfl, hjd, hgg, hij0, HG, HW, I2⟩ := hrel
    have hI := I2.out
    have hij := hI.lt
    have hds := hI.size
    by_cases hlt : j < n
    · have hltz : (j : Int) < (n : Int) := by omega
      have cj := HCA.out wr dk HW.out (by omega) j (by omega)
      have ci := HCA.out wr dk HW.out (by omega) i (by omega)
      have fi := blk_frozen HW.out i
      rw [hI.high j (by omega)] at cj
      have hcall := HC.out j hlt wr HG.out
      obtain ⟨Au, ku, cu, hu⟩ := HSL.out j hlt
      rw [hu] at cj hcall
      have C := zad hu; generalize dk[i]! = old at ci
      clear hI hu; cases hq : kp j with
      | true =>
       rw [hq] at hcall
       go_wp2_with (go_at_fn g; refine hcall.mono ?_; rintro e w' ⟨rfl, hb⟩; have HB2 := zad (gb_trans HG.out (gb_below hb)); have HW2 := zad (gb_heap hb HW.out); (have ci2 := (hb.cell (p := ⟨blk, i, none⟩) (zaz wr _ ci)).trans ci); (have fi2 := (hb.frozen (p := ⟨blk, i, none⟩) (zaz wr _ ci)).trans fi); (have cj2 := (hb.cell (p := ⟨blk, j, none⟩) (zaz wr _ cj)).trans cj); clear hb)
       go_roundg (n - (j + 1))
       case measure => omega
       case rel => exact ⟨i + 1, j + 1, dk.setIfInBounds i (.slice Au ku cu), by go_num, by go_num, by omega, zcc _, by omega, ⟨gb_trans HB2.out (gb_set0 _ blk i _)⟩, ⟨blk_set HW2.out i _⟩, ⟨by have := I2.out.keep (by omega) hq; rwa [C.out] at this⟩⟩
      | false =>
       rw [hq] at hcall
       go_wp2_with (go_at_fn g; refine hcall.mono ?_; rintro e w' ⟨rfl, hb⟩; have HB2 := zad (gb_trans HG.out (gb_below hb)); have HW2 := zad (gb_heap hb HW.out); clear hb)
       go_roundg (n - (j + 1))
       case measure => omega
       case rel => exact ⟨i, j + 1, dk, rfl, by go_num, by omega, zcc _, by omega, ⟨HB2.out⟩, ⟨HW2.out⟩, ⟨I2.out.skip hq⟩⟩
    · obtain rfl : j = n := by omega
      have hltz : ¬ (j : Int) < (j : Int) := by omega
      have hcl : ∀ ty, (Builtin.clear_ #[ρ.t 22] ty #[.slice (some ⟨blk, i, none⟩) (j - i) (cap - i)]).run P wr = .ok (.tuple #[]) (wr.setCells blk i (List.replicate (j - i) (.slice none 0 0))) :=
       fun ty => Lib.run_clear_slice wr _ _ ty _ t22 v23 rfl rfl blk i _ _ (by omega) (fun t ht => by rw [HCA.out wr dk HW.out (by omega) (i + t) (by omega)]; rfl) (fun t ht => blk_frozen HW.out _)
      have HS := zad (heap_setCells (List.replicate (j - i) (.slice none 0 0)) i wr dk HW.out)
      have HDS := zad hds; clear hI hds; go_wp2
      go_ret
      have hI := I2.out
      obtain ⟨cs', h1, h2, h3, h4⟩ := HS.out
      refine ⟨by rw [hI.len]; rfl, gb_trans HG.out h4, cs', h1, by rw [h2, HDS.out, hsz], fun q hq => ?_⟩
      rw [hI.len] at hq
      rw [h3 q (by omega)]
      exact hI.low q hq
 · have hkeep : ∀ j, j < n → kp j = true := fun j hj => by
    cases e : kp j with
    | true => rfl
    | false => exact (hany ⟨j, hj, e⟩).elim
   have e3 : keptUpTo kp cur n = (List.range n).map (cur[·]!) := keptUpTo_all kp cur n hkeep
   have e4 : (keptUpTo kp cur n).length = n := by rw [e3]; simp
   have HKE := zad hkeep; have E3 := zad e3; rw [e4]
   clear hany hkeep e3 e4; obtain ⟨_, _, FG⟩ := L.f10
   go_enter FG, SlBodyH.n10_ntmps ρ
   go_wp2_with (go_at_fn (ρ.f 6); refine HIF.out.mono ?_; rintro e w1 ⟨i1, rfl, hi1, hb1⟩; obtain rfl : i1 = -1 := none_is HKE.out hi1; have HB1 := zad hb1; have HH1 := zad (gb_heap hb1 HH.out); clear hi1 hb1)
   go_ret
   refine ⟨rfl, gb_below HB1.out, cur, HH1.out, hsz, fun j hj => ?_⟩
   rw [E3.out, List.getElem?_map, List.getElem?_range hj]
   rfl
end
theorem tab_bx {W W' : World} {B : Nat} {v : Value} (hb : Below W.heap.size W W') (h : W.cell? ⟨B, 0, none⟩ = some v) (hB : B < W.heap.size) : W'.cell? ⟨B, 0, none⟩ = some v := (hb.cell (p := ⟨B, 0, none⟩) hB).trans h
end Go.Proofs.Ytdkimdlbjeobiaa.A
/-
  DERIVED: THE SHELF's CONTRACTS AT THIS DUMP, IN PLAIN WORDS (tools/lay-plain.mjs out of 'YtdkimdlbjeobiaaShelfD.lean', which tools/lay-shelf.mjs wrote): THE SAME DECLARATIONS UNDER THE SAME NAMES: 'import', 'namespace', 'open', 'def', 'theorem' AND NOTHING ELSE: no command of the shelf's: FOR A HAND-IN. Each laying: the table of numbers ('.._ren') and one theorem, a field a fact of the dump's own or the kernel's comparison; each contract: ONE APPLICATION.
-/
namespace Go.Proofs
open Go.Shelf
def Try.delL_ren : Go.Shelf.Ren := ⟨fun | 10 => 73 | 6 => 75 | n => n, fun | 22 => 23 | 23 => 22 | 25 => 31 | 3 => 3 | 4 => 4 | 0 => 0 | n => n, fun | n => n⟩
theorem Try.delL : Go.Proofs.SlLaysH.n10 Try.prog Try.delL_ren := {
 mixed := by kernel_rfl
 f6 := ⟨Try.f75.name, by decide, Try.func75.trans (congrArg some (by kernel_rfl))⟩
 f10 := ⟨Try.f73.name, by decide, Try.func73.trans (congrArg some (by kernel_rfl))⟩
 t0 := Try.underlying0
 a0 := Try.isAgg0
 z0 := Try.sizeOf0
 v0 := Try.zeroValue0
 t3 := Try.underlying3
 a3 := Try.isAgg3
 z3 := Try.sizeOf3
 v3 := Try.zeroValue3
 t4 := Try.underlying4
 a4 := Try.isAgg4
 z4 := Try.sizeOf4
 v4 := Try.zeroValue4
 t22 := Try.underlying23
 a22 := Try.isAgg23
 z22 := Try.sizeOf23
 v22 := Try.zeroValue23
 a23 := Try.isAgg22
 z23 := Try.sizeOf22
 t25 := Try.underlying31
 a25 := Try.isAgg31
 z25 := Try.sizeOf31
 v25 := Try.zeroValue31 }
end Go.Proofs

namespace Go.Proofs.Ytdkimdlbjeobiaa.A
open Go.RowKit Go.Proofs.YtdkimdlbjeobiaaW.PrintWords Go.Proofs.YtdkimdlbjeobiaaW.PrintLast Go.Proofs.YtdkimdlbjeobiaaW.PrintMore
attribute [local go_sem] max2_int min2_int max_two min_two max_three min_three max_four min_four
def majAll (k : Nat) (l0 : List Int) (xs : List (List Int)) : Bool := xs.all fun x => (impl_isMajorized.f k x l0).isSome
def majKept (k : Nat) (l0 : List Int) (xs : List (List Int)) : List (List Int) := xs.filter fun x => impl_isMajorized.f k x l0 == some true
def impl_below.f (k : Nat) (l0 : List Int) : Option (List (List Int)) := (impl_total.f k l0).bind fun s => (impl_rankings.f k (l0.length : Int) s s).bind fun rs => if 0 < rs.length ∧ majAll k l0 rs = true then some (majKept k l0 rs) else none
theorem S_cells {e i : Nat} {w : World} {base : Nat} {ok : Nat → Prop} {v : Value} {xs : List (List Int)} (hS : Kd.S (Kd.slice i (Kd.int .i64)) e w base ok v xs) (hn : 0 < xs.length) :
 ∃ (blk cap : Nat) (cur : Array Value), v = .slice (some ⟨blk, 0, none⟩) xs.length cap ∧ base ≤ blk ∧ w.heap[blk]? = some (.cells cur e (0, 0)) ∧ cur.size = cap ∧ xs.length ≤ cap ∧ cap ≤ 9223372036854775807 ∧
  ∀ j, j < xs.length → ∃ A c, cur[j]! = .slice A (xs[j]!).length c ∧ (xs[j]!).length ≤ c ∧ ∀ W, GB w W blk → Kd.C (Kd.int .i64) W A (xs[j]!).length (xs[j]!) := by
 obtain ⟨f, h0, inner, ho, hr⟩ := hS
 rw [List.length_zipIdx] at ho
 obtain ⟨hil, hown⟩ := ho
 have hsz1 : (Kd.tag f (Kd.slice i (Kd.int .i64))).sz = 1 := rfl
 rw [hsz1, Nat.mul_one] at hil
 rcases hown with ⟨_, hz⟩ | ⟨blk, cap, cur, rfl, hb, hh, hnc, hc, hcs, htk⟩
 · omega
 rw [hsz1, Nat.mul_one] at hcs htk
 refine ⟨blk, cap, cur, rfl, hb, hh, hcs, hnc, by unfold maxLen at hc; omega, fun j hj => ?_⟩
 have hM := hr.2 j (xs[j], j) (Kd.zip_at (List.getElem?_eq_getElem hj))
 rw [hsz1, Nat.mul_one] at hM
 have hcell : (inner.drop j).take 1 = [cur[j]!] := by
  rw [← htk, List.drop_take, List.take_take, Nat.min_eq_left (by omega)]
  have : j < cur.toList.length := by rw [Array.length_toList]; omega
  rw [List.drop_eq_getElem_cons this, List.take_succ_cons, List.take_zero, getElem!_pos cur j (by simpa using this), Array.getElem_toList]
 rw [hcell] at hM
 have hM2 : (Kd.slice i (Kd.int .i64)).M w base (fun k => (ok k ∧ some k ≠ (Value.slice (some ⟨blk, 0, none⟩) xs.length cap).ownBlock) ∧ f k = j) xs[j] [cur[j]!] := hM
 obtain ⟨v, hv, hR⟩ := hM2
 obtain ⟨A, c, hA, hl, _⟩ := Kd.R_reads hR
 have e : cur[j]! = v := by simpa using hv
 rw [getElem!_pos xs j hj]
 refine ⟨A, c, by rw [e, hA], hl, fun W hG => ?_⟩
 have hR2 := Kd.R_step (w1 := W) hR (fun k hk hlt => hG.block k hlt hk.1.2)
 rw [hA] at hR2
 exact (zbd hR2).2.2
theorem gb_cell {w W : World} {g : Nat} {p : Addr} {v : Value} (h : GB w W g) (hc : w.cell? p = some v) (hne : p.block ≠ g) : W.cell? p = some v := by
 have hlt := zaz w _ hc
 have hb := h.block p.block hlt (by intro e; injection e with e; exact hne e)
 unfold World.cell? at *
 rw [hb]
 exact hc
theorem keptL_filter {α : Type} [Inhabited α] (p : α → Bool) (xs : List α) : keptL (fun j => p xs[j]!) xs = xs.filter p := by
 unfold keptL
 have e : ((List.range xs.length).map fun j => xs[j]!) = xs := by
  apply List.ext_getElem
  · simp
  · intro i h1 h2
    rw [List.getElem_map, List.getElem_range, getElem!_pos xs i h2]
 have := List.filter_map (p := p) (f := fun j => xs[j]!) (l := List.range xs.length)
 rw [e] at this
 rw [this]
 rfl
theorem below_cell (k : Nat) (l0 x : List Int) (t : Bool) (A0 A : Option Addr) (c0 c B : Nat) (W : World) (h0 : W.cell? ⟨B, 0, none⟩ = some (.slice A0 l0.length c0)) (hr0 : Kd.C (Kd.int .i64) W A0 l0.length l0) (hc0 : l0.length ≤ c0) (hr : Kd.C (Kd.int .i64) W A x.length x) (hc : x.length ≤ c) (h : impl_isMajorized.f k x l0 = some t) :
 Calls Try.prog 74 (#[.slice A x.length c] ++ #[.pointer (some ⟨B, 0, none⟩)]) W fun e w' => e = .returned (.bool (!t)) ∧ Below W.heap.size W w' := by
 have HR0 := zad hr0; have HC0 := zad hc0; have HR := zad hr; have HC := zad hc; have HK := zad h; clear hr0 hc0 hr hc h; show Calls Try.prog 74 #[.slice A x.length c, .pointer (some ⟨B, 0, none⟩)] W _
 go_enter Try.func74, Try.ntmps74
 go_wp2_with (go_at_call 43; (refine (impl_isMajorized.calls k A c x A0 c0 l0 t _ ?side1 ?side2 ?side3 ?side4 HK.out).mono ?_); (case side1 => first | exact HR.out | exact zam HR.out _); (case side2 => exact HC.out); (case side3 => first | exact HR0.out | exact zam HR0.out _); (case side4 => exact HC0.out); rintro e w' ⟨rfl, hb⟩; have HB := zad hb; clear hb)
 go_ret
 exact ⟨by cases t <;> rfl, HB.out⟩
theorem below_del (k : Nat) (l0 : List Int) (A0 : Option Addr) (c0 B base : Nat) (rs : List (List Int)) (v : Value) (w : World) (hB : w.cell? ⟨B, 0, none⟩ = some (.slice A0 l0.length c0)) (hlt : B < base) (hr0 : Kd.C (Kd.int .i64) w A0 l0.length l0) (hfoot : ∀ k, base ≤ k → ∀ W, GB w W k → Kd.C (Kd.int .i64) W A0 l0.length l0) (hc0 : l0.length ≤ c0) (hn : 0 < rs.length) (hall : majAll k l0 rs = true)
 (hS : Kd.S (Kd.slice 3 (Kd.int .i64)) 22 w base (fun _ => True) v rs) :
 Calls Try.prog 73 #[v, .func (.func 74) #[] #[.pointer (some ⟨B, 0, none⟩)]] w fun e w' => ∃ v' blk, e = .returned v' ∧ base ≤ blk ∧ Kd.S (Kd.slice 3 (Kd.int .i64)) 22 w' base (fun _ => True) v' (majKept k l0 rs) ∧ GB w w' blk := by
 have hS0 := hS
 obtain ⟨blk, cap, cur, rfl, hbb, hh, hsz, hnc, hcm, hrow⟩ := S_cells hS hn
 have eg : ∀ args w, (callFunc 74 args).run Try.prog w = .ok (.enter 74 args) w := fun args w => enters_ Try.func74 (by kernel_rfl) rfl args w
 have hkp : ∀ j, j < rs.length → impl_isMajorized.f k (rs[j]!) l0 = some (impl_isMajorized.f k (rs[j]!) l0 == some true) := fun j hj => by
  have := List.all_eq_true.1 hall (rs[j]!) (by rw [getElem!_pos rs j hj]; exact List.getElem_mem hj)
  obtain ⟨b, hb⟩ := Option.isSome_iff_exists.1 this
  rw [hb]
  cases b <;> rfl
 refine (delRows Try.delL blk rs.length cap 22 cur (fun j => impl_isMajorized.f k (rs[j]!) l0 == some true) 74 #[.pointer (some ⟨B, 0, none⟩)] w eg (fun w => Try.zeroValue22 w) hh hsz hnc hcm (fun j hj => ?_) (fun j hj W hG => ?_)).mono ?_
 · obtain ⟨A, c, h, _⟩ := hrow j hj
   exact ⟨A, _, c, h⟩
 · obtain ⟨A, c, h, hl, hC⟩ := hrow j hj
   rw [h]
   exact below_cell k l0 (rs[j]!) _ A0 A c0 c B W (gb_cell hG hB (by show B ≠ blk; omega)) (hfoot blk hbb W hG) hc0 (hC W hG) hl (hkp j hj)
 · rintro e w' ⟨rfl, hG, cur', hh', hs', hl'⟩
   have hk := S_kept_rows (d := Kd.slice 3 (Kd.int .i64)) rfl (kp := fun j => impl_isMajorized.f k (rs[j]!) l0 == some true) hS0 hh hG hh' (by rw [hs', hsz]) hl'
   rw [keptL_length _ rs cur] at hk
   rw [keptL_filter (fun x => impl_isMajorized.f k x l0 == some true) rs] at hk
   exact ⟨_, blk, rfl, hbb, hk, hG⟩
theorem impl_below.calls (k : Nat) (A0 : Option Addr) (c0 : Nat) (l0 : List Int) (r : List (List Int)) (w : World) (hr0 : Kd.C (Kd.int .i64) w A0 l0.length l0) (hc0 : l0.length ≤ c0) (h : impl_below.f k l0 = some r) :
 Calls Try.prog 40 #[.slice A0 l0.length c0] w fun e w' => ∃ v0_ : Value, e = .returned (v0_) ∧ Kd.S (Kd.slice 3 (Kd.int .i64)) 22 w' w.heap.size (fun _ => True) v0_ r ∧ Below w.heap.size w w' := by
 unfold impl_below.f at h
 obtain ⟨s, ht, h⟩ := zay.mp h
 obtain ⟨rs, hrk, h⟩ := zay.mp h
 split at h
 next hc =>
  obtain ⟨hn, hall⟩ := hc
  obtain rfl := zbc h
  have HT := zad ht; have HRK := zad hrk; have HN := zad hn; have HALL := zad hall; have HR0 := zad hr0; have HC0 := zad hc0; have HB := zad (Below.refl w.heap.size w)
  clear hr0 hc0 ht hrk hn hall h; go_enter Try.func40, Try.ntmps40
  go_wp2
  go_region_held3 (fun w' => w'.cell? ⟨w.heap.size, 0, none⟩ = some (.slice A0 l0.length c0)) (first | exact x0 | exact x9 | (simp [go_sem]; done))
   (first | (go_at_call 39; (refine (impl_total.calls k A0 c0 l0 s _ ?side1 ?side2 HT.out).mono ?_); (case side1 => exact Kd.C_below HR0.out (taaa)); (case side2 => exact HC0.out); rintro e w1 ⟨rfl, ⟨m1, rfl⟩⟩) | (go_at_call 65; (refine (impl_rankings.calls k (l0.length : Int) s s rs _ HRK.out).mono ?_); rintro e w2 ⟨v2, rfl, ho, hb⟩; have HB2 := zad (zbe (taaa) hb); have x0 := tab_bx hb (B := w.heap.size) (v := .slice A0 l0.length c0) (by simp [go_sem]) (by first | (simp; done) | (simp; omega)); have HO := zad (show Kd.S (Kd.slice 3 (Kd.int .i64)) 22 w2 (w.heap.size + 1) (fun _ => True) v2 rs from Kd.S_lower ho (by first | (simp; done) | (simp; omega))); clear HB hb ho; have HB := HB2; clear HB2; obtain ⟨Au, cu, eu⟩ := Kd.S_slice HO.out; subst eu) | (go_at_call 73; (refine (below_del k l0 A0 c0 w.heap.size (w.heap.size + 1) rs _ _ x0 (by omega) ?side1 ?side2 HC0.out HN.out HALL.out HO.out).mono ?_); (case side1 => exact Kd.C_below HR0.out HB.out); (case side2 => exact fun kk hk W hG => Kd.C_below HR0.out (below_gb HB.out hG (by omega))); rintro e w3 ⟨v3, blk, rfl, hbb, ho, hG⟩; have HO2 := zad (Kd.S_lower (base' := w.heap.size) ho (by omega)); have HB2 := zad (below_gb HB.out hG (by omega)); have x9 := gb_cell hG x0 (by show w.heap.size ≠ blk; omega); clear HO ho hG HB x0; have HO := HO2; have HB := HB2; clear HO2 HB2))
  all_goals (go_wp2; go_ret; exact ⟨_, rfl, HO.out, HB.out⟩)
 next => cases h
def impl_BelowOf.f (k : Nat) (l0 : List Int) : Option ((List (List Int)) × Bool) := (impl_IsList.f k l0).bind fun t561 => (if t561 = true then ((impl_total.f k l0).bind fun t562 => (if t562 > 30 then (some (([] : List (List Int)), false)) else ((impl_below.f k l0).bind fun t563 => (some (t563, true))))) else (some (([] : List (List Int)), false)))
theorem impl_BelowOf.calls (k : Nat) (A0 : Option Addr) (c0 : Nat) (l0 : List Int) (r1 : List (List Int)) (r2 : Bool) (w : World) (hr0 : Kd.C (Kd.int .i64) w A0 l0.length l0) (hc0 : l0.length ≤ c0) (h : impl_BelowOf.f k l0 = some (r1, r2)) :
 Calls Try.prog 23 #[.slice A0 l0.length c0] w fun e w' => ∃ v0_ : Value, e = .returned (.tuple #[v0_, .bool r2]) ∧ Kd.S (Kd.slice 3 (Kd.int .i64)) 22 w' w.heap.size (fun _ => True) v0_ r1 ∧ Below w.heap.size w w' := by
 have HR0 := zad hr0; have HC0 := zad hc0; clear hr0 hc0; have HB := zad (Below.refl w.heap.size w)
 have H : ((impl_IsList.f k l0).bind fun t561 => (if t561 = true then ((impl_total.f k l0).bind fun t562 => (if t562 > 30 then (some (([] : List (List Int)), false)) else ((impl_below.f k l0).bind fun t563 => (some (t563, true))))) else (some (([] : List (List Int)), false)))) = some (r1, r2) := h
 clear h; replace H := zay.mp H; obtain ⟨t561, A20, H⟩ := H
 replace H : (if t561 = true then ((impl_total.f k l0).bind fun t562 => (if t562 > 30 then (some (([] : List (List Int)), false)) else ((impl_below.f k l0).bind fun t563 => (some (t563, true))))) else (some (([] : List (List Int)), false))) = some (r1, r2) := H
 have A2 := zad A20; clear A20; by_cases c3 : t561 = true
 · subst c3
   have H1 : ((impl_total.f k l0).bind fun t562 => (if t562 > 30 then (some (([] : List (List Int)), false)) else ((impl_below.f k l0).bind fun t563 => (some (t563, true))))) = some (r1, r2) := by rw [if_pos rfl] at H; exact H
   clear H; have H := H1; clear H1; replace H := zay.mp H; obtain ⟨t562, A40, H⟩ := H
   replace H : (if t562 > 30 then (some (([] : List (List Int)), false)) else ((impl_below.f k l0).bind fun t563 => (some (t563, true)))) = some (r1, r2) := H
   have A4 := zad A40; clear A40; by_cases c5 : t562 > 30
   · rw [if_pos c5] at H
     have c5b0 : decide (30 < t562) = true := zba c5
     clear c5; simp only [zbj, zbn] at H
     obtain ⟨rfl, rfl⟩ := H
     go_enter Try.func23, Try.ntmps23
     go_wp2_with (first | ((with_reducible refine zbf (f := 38) rfl ?_); refine zbl (some 5) rfl rfl Try.func38 (by kernel_rfl) rfl #[.slice A0 l0.length c0] rfl (taac) ?_; (with_reducible refine (impl_IsList.calls k _ _ l0 true _ ?side1 ?side2 A2.out).mono ?_); (case side1 => repeat (first | exact HR0.out | (with_reducible refine zal ?_ _) | (with_reducible refine zam ?_ _) | (with_reducible refine zan ?_))); (case side2 => exact HC0.out); rintro e w' ⟨rfl, ⟨nd, rfl⟩⟩; refine ⟨_, rfl, ?_⟩) | (go_at_call 39; (with_reducible refine (impl_total.calls k _ _ l0 t562 _ ?side1 ?side2 A4.out).mono ?_); (case side1 => repeat (first | exact HR0.out | (with_reducible refine zal ?_ _) | (with_reducible refine zam ?_ _) | (with_reducible refine zan ?_))); (case side2 => exact HC0.out); rintro e w' ⟨rfl, ⟨nd, rfl⟩⟩))
     go_ret2
     exact ⟨_, taam, tacw, taaa⟩
   · rw [if_neg c5] at H
     have c5b0 : decide (30 < t562) = false := zbh c5
     clear c5; replace H := zay.mp H; obtain ⟨t563, A60, H⟩ := H
     replace H : (some (t563, true)) = some (r1, r2) := H
     have A6 := zad A60; clear A60; simp only [zbj, zbn] at H
     obtain ⟨rfl, rfl⟩ := H
     go_enter Try.func23, Try.ntmps23
     go_wp2_with (first | ((with_reducible refine zbf (f := 38) rfl ?_); refine zbl (some 5) rfl rfl Try.func38 (by kernel_rfl) rfl #[.slice A0 l0.length c0] rfl (taac) ?_; (with_reducible refine (impl_IsList.calls k _ _ l0 true _ ?side1 ?side2 A2.out).mono ?_); (case side1 => repeat (first | exact HR0.out | (with_reducible refine zal ?_ _) | (with_reducible refine zam ?_ _) | (with_reducible refine zan ?_))); (case side2 => exact HC0.out); rintro e w' ⟨rfl, ⟨nd, rfl⟩⟩; refine ⟨_, rfl, ?_⟩) | (go_at_call 39; (with_reducible refine (impl_total.calls k _ _ l0 t562 _ ?side1 ?side2 A4.out).mono ?_); (case side1 => repeat (first | exact HR0.out | (with_reducible refine zal ?_ _) | (with_reducible refine zam ?_ _) | (with_reducible refine zan ?_))); (case side2 => exact HC0.out); rintro e w' ⟨rfl, ⟨nd, rfl⟩⟩) | ((with_reducible refine zbf (f := 40) rfl ?_); refine zbl (some 13) rfl rfl Try.func40 (by kernel_rfl) rfl #[.slice A0 l0.length c0] rfl (taac) ?_; (with_reducible refine (impl_below.calls k _ _ l0 t563 _ ?side1 ?side2 A6.out).mono ?_); (case side1 => repeat (first | exact HR0.out | (with_reducible refine zal ?_ _) | (with_reducible refine zam ?_ _) | (with_reducible refine zan ?_))); (case side2 => exact HC0.out); rintro e w7 ⟨v564, rfl, ho0, hb⟩; refine ⟨_, rfl, ?_⟩; have n0_ := zad (Kd.S_lower ho0 (zbi (taaa))); have n1_ := zad (zbe (taaa) hb); clear HB; have HO565 := n0_; have HB := n1_; clear n0_ n1_; (try clear hb); (try clear hb2); (try clear hk); (try clear hi); (try clear ho0)))
     go_ret2
     exact ⟨_, taam, by (with_reducible repeat (first | apply Kd.S_alloc | apply Kd.S_drewN | apply Kd.S_drew)); exact HO565.out, taaa⟩
 · replace c3 := zbg.mpr c3
   subst c3; have H1 : (some (([] : List (List Int)), false)) = some (r1, r2) := by rw [if_neg (show ¬ (false = true) by decide)] at H; exact H
   clear H; have H := H1; clear H1; simp only [zbj, zbn] at H
   obtain ⟨rfl, rfl⟩ := H
   go_enter Try.func23, Try.ntmps23
   go_wp2_with (first | ((with_reducible refine zbf (f := 38) rfl ?_); refine zbl (some 5) rfl rfl Try.func38 (by kernel_rfl) rfl #[.slice A0 l0.length c0] rfl (taac) ?_; (with_reducible refine (impl_IsList.calls k _ _ l0 false _ ?side1 ?side2 A2.out).mono ?_); (case side1 => exact taen); (case side2 => exact HC0.out); rintro e w' ⟨rfl, ⟨nd, rfl⟩⟩; refine ⟨_, rfl, ?_⟩))
   go_ret2
   exact ⟨_, taam, tacw, taaa⟩
def laws_pSum.l0 : Nat → Int → List Int → Int → Int → Option (Int)
 | 0, _, _, _, _ => none
 | k + 1, x3, x6, x7, x8 => if x8 < x7 then (if 0 ≤ x8 then (if x8 < (x6.length : Int) then (laws_pSum.l0 k (wrap64 (x3 + (rd x6 x8))) x6 x7 (wrap64 (x8 + 1))) else (none)) else (none)) else (some x3)
def laws_pSum.f (k : Nat) (l0 : List Int) : Option (Int) := laws_pSum.l0 k 0 l0 (l0.length : Int) 0
theorem laws_pSum.calls (k : Nat) (A0 : Option Addr) (c0 : Nat) (l0 : List Int) (r : Int) (w : World) (hr0 : Kd.C (Kd.int .i64) w A0 l0.length l0) (hc0 : l0.length ≤ c0) (h : laws_pSum.f k l0 = some r) :
 Calls Try.prog 24 #[.slice A0 l0.length c0] w fun e w' => e = .returned (.int .i64 r) ∧ Drawn0 w w' := by
 have HR0 := zad hr0; have HC0 := zad hc0; clear hr0 hc0; have H : (laws_pSum.l0 k 0 l0 (l0.length : Int) 0) = some r := h
 clear h; have H' := zad H
 clear H; go_enter Try.func24, Try.ntmps24
 go_wp2
 go_loopg [3, 8] k (fun kq v3 v8 w' => ∃ (x3_1 : Int) (x8_1 : Int), v3 = .int .i64 x3_1 ∧ v8 = .int .i64 x8_1 ∧ Aside0 (laws_pSum.l0 kq x3_1 l0 (l0.length : Int) x8_1 = some r) ∧ Aside0 (kq ≤ k) ∧ Drawn0 w w')
 case atStart => exact ⟨(0), (0), (taad), (taad), H', ⟨zcc _⟩, taap⟩
 case round =>
  clear H'
  obtain ⟨x3_1, x8_1, rfl, rfl, HA, HK1, ⟨m1, rfl⟩⟩ := hrel
  cases gk with
  | zero => exact absurd HA.out (by simp [laws_pSum.l0])
  | succ k1 =>
   have H := HA.out
   clear HA; simp only [laws_pSum.l0] at H
   by_cases c2 : x8_1 < (l0.length : Int)
   · rw [if_pos c2] at H
     have c2b0 : decide (x8_1 < (l0.length : Int)) = true := zba c2
     clear c2; by_cases c3 : 0 ≤ x8_1
     · rw [if_pos c3] at H
       have c3b0 : decide (0 ≤ x8_1) = true := zba c3
       clear c3; by_cases c4 : x8_1 < (l0.length : Int)
       · rw [if_pos c4] at H
         have c4b0 : decide (x8_1 < (l0.length : Int)) = true := zba c4
         clear c4; have H' := zad H
         clear H; have p566 : 0 ≤ (x8_1 : Int) := zas (taab)
         have q566 : x8_1 < (l0.length : Int) := zas (taab)
         obtain ⟨ad566, e566, hx566_0⟩ := zbx HR0.out x8_1 p566 q566
         cases e566
         replace p566 := eq_true p566
         replace q566 := eq_true q566
         go_wp2
         go_roundg k1
         case measure => have := HK1.out; omega
         case rel => exact ⟨(wrap64 (x3_1 + (rd l0 x8_1))), (wrap64 (x8_1 + 1)), (taad), (taad), H', ⟨taaw⟩, taap⟩
       · rw [if_neg c4] at H
         exact absurd H (taah)
     · rw [if_neg c3] at H
       exact absurd H (taah)
   · rw [if_neg c2] at H
     have c2b0 : decide (x8_1 < (l0.length : Int)) = false := zbh c2
     clear c2; obtain rfl := zbc H
     go_wp2
     go_ret
     exact ⟨taad, taap⟩
end Go.Proofs.Ytdkimdlbjeobiaa.A
