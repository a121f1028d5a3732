/- What the law FnCoversOfLists reaches, part 3: Lean functions with the same answers as the Go functions, the proofs that the Go code comes to these answers, and lemmas about them; no condition beyond those that each theorem names. -/
import Derived.Test.YtdkimdlbjeobiaaCFnCoversOfListsw1
import Derived.Test.YtdkimdlbjeobiaaCFnCoversOfLists1
import Derived.Test.YtdkimdlbjeobiaaCFnCoversOfLists2
set_option linter.unusedVariables false
set_option linter.unusedSimpArgs false
set_option maxHeartbeats 8000000
set_option maxRecDepth 100000
namespace Go.Proofs.Ytdkimdlbjeobiaa.A
open Go.RowKit Go.Proofs.YtdkimdlbjeobiaaW.PrintWords Go.Proofs.YtdkimdlbjeobiaaW.PrintLast Go.Proofs.YtdkimdlbjeobiaaW.PrintMore
attribute [local go_sem] max2_int min2_int max_two min_two max_three min_three max_four min_four
mutual
def spec_LowerCovers.j0 : Nat → List Int → Bool → Option ((List (List Int)) × Bool)
 | 0, _, _ => none
 | k + 1, x0, x18 => if x18 = true then (some (([] : List (List Int)), false)) else ((spec_liRank.f k x0).bind fun t347 => ((spec_liGifts.f k t347).bind fun t350 => (spec_LowerCovers.l0 k t350 ([] : List (List Int)) t350 (t350.length : Int) 0)))
def spec_LowerCovers.l0 : Nat → List (List Int) → List (List Int) → List (List Int) → Int → Int → Option ((List (List Int)) × Bool)
 | 0, _, _, _, _, _ => none
 | k + 1, x4, x5, x22, x23, x24 => if x24 < x23 then (if 0 ≤ x24 then (if x24 < (x22.length : Int) then (spec_LowerCovers.l1 k x4 x5 (rd_L1 x22 x24) true x22 x23 x24 x4 (x4.length : Int) 0) else (none)) else (none)) else (some (x5, true))
def spec_LowerCovers.l1 : Nat → List (List Int) → List (List Int) → List Int → Bool → List (List Int) → Int → Int → List (List Int) → Int → Int → Option ((List (List Int)) × Bool)
 | 0, _, _, _, _, _, _, _, _, _, _ => none
 | k + 1, x4, x5, x7, x8, x22, x23, x24, x28, x29, x30 => if x30 < x29 then (if 0 ≤ x30 then (if x30 < (x28.length : Int) then (if x8 = true then ((spec_l1Same.f k x7 (rd_L1 x28 x30)).bind fun t355 => (if t355 = true then (spec_LowerCovers.l1 k x4 x5 x7 true x22 x23 x24 x28 x29 (wrap64 (x30 + 1))) else ((spec_liBelow.f k x7 (rd_L1 x28 x30)).bind fun t356 => (spec_LowerCovers.l1 k x4 x5 x7 (!t356) x22 x23 x24 x28 x29 (wrap64 (x30 + 1)))))) else (spec_LowerCovers.l1 k x4 x5 x7 false x22 x23 x24 x28 x29 (wrap64 (x30 + 1)))) else (none)) else (none)) else (if x8 = true then ((spec_liPut.f k x5 x7).bind fun t357 => (spec_LowerCovers.l0 k x4 t357 x22 x23 (wrap64 (x24 + 1)))) else (spec_LowerCovers.l0 k x4 x5 x22 x23 (wrap64 (x24 + 1))))
end
def spec_LowerCovers.f (k : Nat) (l0 : List Int) : Option ((List (List Int)) × Bool) := (spec_liGood.f k l0).bind fun t345 => (if t345 = true then ((spec_liSum.f k l0).bind fun t346 => (spec_LowerCovers.j0 k l0 (decide (t346 > 30)))) else (spec_LowerCovers.j0 k l0 true))
theorem spec_LowerCovers.calls (k : Nat) (A0 : Option Addr) (c0 : Nat) (l0 : List Int) (r1 : List (List Int)) (r2 : Bool) (w : World) (hr0 : Kd.C (Kd.int .i64) w A0 l0.length l0) (hc0 : l0.length ≤ c0) (h : spec_LowerCovers.f k l0 = some (r1, r2)) :
 Calls Try.prog 6 #[.slice A0 l0.length c0] w fun e w' => ∃ v0_ : Value, e = .returned (.tuple #[v0_, .bool r2]) ∧ Kd.V (Kd.slice 3 (Kd.int .i64)) 22 w' w.heap.size (fun k_ => (w.heap.size ≤ k_)) v0_ r1 ∧ Below w.heap.size w w' := by
 have HR0 := zad hr0; have HC0 := zad hc0; clear hr0 hc0; have HB := zad (Below.refl w.heap.size w)
 have H : ((spec_liGood.f k l0).bind fun t345 => (if t345 = true then ((spec_liSum.f k l0).bind fun t346 => (spec_LowerCovers.j0 k l0 (decide (t346 > 30)))) else (spec_LowerCovers.j0 k l0 true))) = some (r1, r2) := h
 clear h; have HC2 := zad H; clear H; go_enter Try.func6, Try.ntmps6
 go_upto_region 1 with (fail)
 go_cut [18] (fun v18 wc => ∃ (kq : Nat) (x18_1 : Bool), v18 = .bool x18_1 ∧ Aside0 (spec_LowerCovers.j0 kq l0 x18_1 = some (r1, r2)) ∧ Aside0 (kq ≤ k) ∧ Aside0 (Below w.heap.size w wc))
 case first =>
  have H := HC2.out
  clear HC2; replace H := zay.mp H; obtain ⟨t345, A30, H⟩ := H
  replace H : (if t345 = true then ((spec_liSum.f k l0).bind fun t346 => (spec_LowerCovers.j0 k l0 (decide (t346 > 30)))) else (spec_LowerCovers.j0 k l0 true)) = some (r1, r2) := H
  have A3 := zad A30; clear A30; by_cases c4 : t345 = true
  · subst c4
    have H1 : ((spec_liSum.f k l0).bind fun t346 => (spec_LowerCovers.j0 k l0 (decide (t346 > 30)))) = some (r1, r2) := by rw [if_pos rfl] at H; exact H
    clear H; have H := H1; clear H1; replace H := zay.mp H; obtain ⟨t346, A50, H⟩ := H
    replace H : (spec_LowerCovers.j0 k l0 (decide (t346 > 30))) = some (r1, r2) := H
    have A5 := zad A50; clear A50; have H' := zad H
    clear H; go_wp2_with (first | ((with_reducible refine zbi (f := 31) rfl ?_); refine zbo (some 12) rfl rfl Try.func31 (by kernel_rfl) rfl #[.slice A0 l0.length c0] rfl (taae) ?_; (with_reducible refine (spec_liGood.calls k _ _ l0 true _ ?side1 ?side2 A3.out).mono ?_); (case side1 => repeat (first | exact (Kd.C_below HR0.out HB.out) | (with_reducible refine zal ?_ _) | (with_reducible refine zam ?_ _) | (with_reducible refine zan ?_))); (case side2 => exact HC0.out); rintro e w' ⟨rfl, ⟨nd, rfl⟩⟩; refine ⟨_, rfl, ?_⟩) | (go_at_call 32; (with_reducible refine (spec_liSum.calls k _ _ l0 t346 _ ?side1 ?side2 A5.out).mono ?_); (case side1 => repeat (first | exact (Kd.C_below HR0.out (taaa)) | (with_reducible refine zal ?_ _) | (with_reducible refine zam ?_ _) | (with_reducible refine zan ?_))); (case side2 => exact HC0.out); rintro e w' ⟨rfl, ⟨nd, rfl⟩⟩))
    go_meet
    case rel => exact ⟨_, (decide (t346 > 30)), (taad), H', ⟨tabn⟩, ⟨taaa⟩⟩
  · replace c4 := zbj.mpr c4
    subst c4; have H1 : (spec_LowerCovers.j0 k l0 true) = some (r1, r2) := by rw [if_neg (show ¬ (false = true) by decide)] at H; exact H
    clear H; have H := H1; clear H1; have H' := zad H
    clear H; go_wp2_with (first | ((with_reducible refine zbi (f := 31) rfl ?_); refine zbo (some 12) rfl rfl Try.func31 (by kernel_rfl) rfl #[.slice A0 l0.length c0] rfl (taae) ?_; (with_reducible refine (spec_liGood.calls k _ _ l0 false _ ?side1 ?side2 A3.out).mono ?_); (case side1 => exact tafr); (case side2 => exact HC0.out); rintro e w' ⟨rfl, ⟨nd, rfl⟩⟩; refine ⟨_, rfl, ?_⟩))
    go_meet
    case rel => exact ⟨_, (true), (taad), H', ⟨tabn⟩, ⟨taaa⟩⟩
 case rest =>
  clear HC2; try clear c1
  try clear p2
  try clear c4
  obtain ⟨kq, x18_1, rfl, HA, HJ1, HB⟩ := hcut
  cases kq with
  | zero => exact absurd HA.out (by simp [spec_LowerCovers.j0])
  | succ kj1 =>
   have H := HA.out
   clear HA; simp only [spec_LowerCovers.j0] at H
   by_cases c6 : x18_1 = true
   · subst c6
     have H1 : (some (([] : List (List Int)), false)) = some (r1, r2) := by rw [if_pos rfl] at H; exact H
     clear H; have H := H1; clear H1; simp only [zbm, zbq] at H
     obtain ⟨rfl, rfl⟩ := H
     go_wp2
     go_ret2
     exact ⟨_, taaf, taeh, taaa⟩
   · replace c6 := zbj.mpr c6
     subst c6; have H1 : ((spec_liRank.f kj1 l0).bind fun t347 => ((spec_liGifts.f kj1 t347).bind fun t350 => (spec_LowerCovers.l0 kj1 t350 ([] : List (List Int)) t350 (t350.length : Int) 0))) = some (r1, r2) := by rw [if_neg (show ¬ (false = true) by decide)] at H; exact H
     clear H; have H := H1; clear H1; replace H := zay.mp H; obtain ⟨t347, A70, H⟩ := H
     replace H : ((spec_liGifts.f kj1 t347).bind fun t350 => (spec_LowerCovers.l0 kj1 t350 ([] : List (List Int)) t350 (t350.length : Int) 0)) = some (r1, r2) := H
     have A7 := zad A70; clear A70; replace H := zay.mp H; obtain ⟨t350, A80, H⟩ := H
     replace H : (spec_LowerCovers.l0 kj1 t350 ([] : List (List Int)) t350 (t350.length : Int) 0) = some (r1, r2) := H
     have A8 := zad A80; clear A80; have H' := zad H
     clear H; go_wp2_with (first | ((with_reducible refine zbi (f := 34) rfl ?_); refine zbo (some 20) rfl rfl Try.func34 (by kernel_rfl) rfl #[.slice A0 l0.length c0] rfl (taae) ?_; (with_reducible refine (spec_liRank.calls kj1 _ _ l0 t347 _ ?side1 ?side2 A7.out).mono ?_); (case side1 => repeat (first | exact (Kd.C_below HR0.out HB.out) | (with_reducible refine zal ?_ _) | (with_reducible refine zam ?_ _) | (with_reducible refine zan ?_))); (case side2 => exact HC0.out); rintro e w9 ⟨v348, rfl, ho0, hb⟩; refine ⟨_, rfl, ?_⟩; have n0_ := zad (zbu ho0 (zbl (taaa))); have n1_ := zad (zbh (taaa) hb); clear HB; have HO349 := n0_; have HB := n1_; clear n0_ n1_; (try clear hb); (try clear hb2); (try clear hk); (try clear hi); (try clear ho0); obtain ⟨Ao10, co10, eo10⟩ := zbv HO349.out; subst eo10) | ((with_reducible refine zbi (f := 33) rfl ?_); refine zbo (some 21) rfl rfl Try.func33 (by kernel_rfl) rfl #[.slice Ao10 t347.length co10] rfl (taae) ?_; (with_reducible refine (spec_liGifts.calls kj1 _ _ t347 t350 _ ?side1 ?side2 A8.out).mono ?_); (case side1 => repeat (first | exact (zbg HO349.out).2.2 | (with_reducible refine zal ?_ _) | (with_reducible refine zam ?_ _) | (with_reducible refine zan ?_))); (case side2 => exact (zbg HO349.out).2.1); rintro e w11 ⟨v351, rfl, ho0, hb⟩; refine ⟨_, rfl, ?_⟩; have n0_ := zad (zbt (by (with_reducible repeat (first | apply zai | apply zaj | apply zak)); exact HO349.out) hb); have n1_ := zad (Kd.V_mono (Kd.S_V (base' := w.heap.size) (Kd.S_bound ho0)) (fun k_ hk => Nat.le_trans (zbl (taaa)) hk.2.1)); have n2_ := zad (zbh (taaa) hb); clear HO349 HB; have HO349 := n0_; have HO352 := n1_; have HB := n2_; clear n0_ n1_ n2_; (try clear hb); (try clear hb2); (try clear hk); (try clear hi); (try clear ho0); obtain ⟨Ao12, co12, eo12⟩ := Kd.V_slice HO352.out; subst eo12))
     go_loopg [5, 24] kj1 (fun kq v5 v24 w' => ∃ (x5_2 : List (List Int)) (x24_2 : Int), v24 = .int .i64 x24_2 ∧ Aside0 (spec_LowerCovers.l0 kq t350 x5_2 t350 (t350.length : Int) x24_2 = some (r1, r2)) ∧ Aside0 (kq ≤ kj1) ∧ Aside0 (Kd.V (Kd.slice 3 (Kd.int .i64)) 22 w' w.heap.size (fun k_ => (w.heap.size ≤ k_)) (.slice Ao12 t350.length co12) t350) ∧ Aside0 (Kd.V (Kd.slice 3 (Kd.int .i64)) 22 w' w.heap.size (fun k_ => (w.heap.size ≤ k_)) v5 x5_2) ∧ Aside0 (Kd.V (Kd.slice 3 (Kd.int .i64)) 22 w' w.heap.size (fun k_ => (w.heap.size ≤ k_)) (.slice Ao12 t350.length co12) t350) ∧ Aside0 (Below w.heap.size w w'))
     case atStart => exact ⟨(([] : List (List Int))), (0), (taad), H', ⟨zcb _⟩, ⟨taei⟩, ⟨taeh⟩, ⟨taei⟩, ⟨taaa⟩⟩
     case round =>
      clear H'
      try clear c1
      try clear c2
      try clear p2
      try clear c4
      try clear c6
      try clear p2
      obtain ⟨x5_2, x24_2, rfl, HA, HK2, HO_4, HO_5, HO_22, HB⟩ := hrel
      cases gk with
      | zero => exact absurd HA.out (by simp [spec_LowerCovers.l0])
      | succ k2 =>
       have H := HA.out
       clear HA; simp only [spec_LowerCovers.l0] at H
       by_cases c13 : x24_2 < (t350.length : Int)
       · rw [if_pos c13] at H
         have c13b0 : decide (x24_2 < (t350.length : Int)) = true := zba c13
         clear c13; by_cases c14 : 0 ≤ x24_2
         · rw [if_pos c14] at H
           have c14b0 : decide (0 ≤ x24_2) = true := zba c14
           clear c14; by_cases c15 : x24_2 < (t350.length : Int)
           · rw [if_pos c15] at H
             have c15b0 : decide (x24_2 < (t350.length : Int)) = true := zba c15
             clear c15; have H' := zad H
             clear H; have p353 : 0 ≤ (x24_2 : Int) := zas (taab)
             have q353 : x24_2 < (t350.length : Int) := zas (taab)
             obtain ⟨ad353, A353_0, c353_0, e353, hx353_0, hl353_0, hi353_0⟩ := at_L1 (Kd.V_reads' HO_22.out).2.2 x24_2 p353 q353
             cases e353
             obtain ⟨ce353, hce353, hMe353, hcc353⟩ := Kd.V_get HO_22.out [] x24_2 p353 (by first | exact q353 | exact zas (taab) | (have e_ := (Kd.V_reads' HO_22.out).1; omega))
             obtain ⟨ua353_0, uc353_0, rfl, ul353_0, ge353_0⟩ := Kd.FK_slice_open hMe353
             have hv353_0 := hcc353 0 _ rfl
             rw [Nat.add_zero, show ((Kd.slice 3 (Kd.int .i64))).sz = 1 from rfl, Nat.mul_one] at hv353_0
             replace hv353_0 := zbf (hv353_0.symm.trans hx353_0)
             injection hv353_0 with hva_ hvn_ hvc_
             rw [hva_] at ge353_0
             rw [hvc_] at ul353_0
             have HL353_0 := zad (show Kd.V (Kd.int .i64) 3 _ w.heap.size _ _ (rd_L1 t350 x24_2) from Kd.V_mk ul353_0 ge353_0)
             clear hva_ hvn_ hvc_ ge353_0 ul353_0 hcc353 hce353; have HR353_0 := zad hi353_0; have HC353_0 := zad hl353_0; clear hi353_0 hl353_0; replace p353 := eq_true p353
             replace q353 := eq_true q353
             go_wp2
             go_loopg [8, 30] k2 (fun kq v8 v30 w' => ∃ (x8_3 : Bool) (x30_3 : Int), v8 = .bool x8_3 ∧ v30 = .int .i64 x30_3 ∧ Aside0 (spec_LowerCovers.l1 kq t350 x5_2 (rd_L1 t350 x24_2) x8_3 t350 (t350.length : Int) x24_2 t350 (t350.length : Int) x30_3 = some (r1, r2)) ∧ Aside0 (kq ≤ k2) ∧ Aside0 (Kd.V (Kd.slice 3 (Kd.int .i64)) 22 w' w.heap.size (fun k_ => (w.heap.size ≤ k_)) (.slice (some ad353) t350.length co12) t350) ∧ Aside0 (Kd.V (Kd.slice 3 (Kd.int .i64)) 22 w' w.heap.size (fun k_ => (w.heap.size ≤ k_)) u5 x5_2) ∧ Aside0 (Kd.V (Kd.slice 3 (Kd.int .i64)) 22 w' w.heap.size (fun k_ => (w.heap.size ≤ k_)) (.slice (some ad353) t350.length co12) t350) ∧ Aside0 (Kd.V (Kd.slice 3 (Kd.int .i64)) 22 w' w.heap.size (fun k_ => (w.heap.size ≤ k_)) (.slice (some ad353) t350.length co12) t350) ∧ Aside0 (Kd.V (Kd.int .i64) 3 w' w.heap.size (fun k_ => (w.heap.size ≤ k_)) (.slice A353_0 (rd_L1 t350 x24_2).length c353_0) (rd_L1 t350 x24_2)) ∧ Aside0 (Below w.heap.size w w'))
             case atStart => exact ⟨(true), (0), (taad), (taad), H', ⟨zcb _⟩, ⟨tabg⟩, ⟨tabh⟩, ⟨tabi⟩, ⟨tabg⟩, ⟨tabk⟩, ⟨taaa⟩⟩
             case round =>
              clear H'
              try clear c1
              try clear c2
              try clear p2
              try clear c3
              try clear p3
              try clear q3
              try clear hx3
              try clear c4
              try clear c6
              try clear c13
              try clear c13b0
              try clear c14
              try clear c14b0
              try clear c15
              try clear c15b0
              try clear hx353_0
              try clear p2
              try clear p353
              try clear q353
              obtain ⟨x8_3, x30_3, rfl, rfl, HA, HK3, HO_4, HO_5, HO_22, HO_28, HL353_0, HB⟩ := hrel
              have HR353_0 := zad (Kd.V_reads' HL353_0.out).2.2
              cases gk with
              | zero => exact absurd HA.out (by simp [spec_LowerCovers.l1])
              | succ k3 =>
               have H := HA.out
               clear HA; simp only [spec_LowerCovers.l1] at H
               by_cases c16 : x30_3 < (t350.length : Int)
               · rw [if_pos c16] at H
                 have c16b0 : decide (x30_3 < (t350.length : Int)) = true := zba c16
                 clear c16; by_cases c17 : 0 ≤ x30_3
                 · rw [if_pos c17] at H
                   have c17b0 : decide (0 ≤ x30_3) = true := zba c17
                   clear c17; by_cases c18 : x30_3 < (t350.length : Int)
                   · rw [if_pos c18] at H
                     have c18b0 : decide (x30_3 < (t350.length : Int)) = true := zba c18
                     clear c18; by_cases c19 : x8_3 = true
                     · subst c19
                       have H1 : ((spec_l1Same.f k3 (rd_L1 t350 x24_2) (rd_L1 t350 x30_3)).bind fun t355 => (if t355 = true then (spec_LowerCovers.l1 k3 t350 x5_2 (rd_L1 t350 x24_2) true t350 (t350.length : Int) x24_2 t350 (t350.length : Int) (wrap64 (x30_3 + 1))) else ((spec_liBelow.f k3 (rd_L1 t350 x24_2) (rd_L1 t350 x30_3)).bind fun t356 => (spec_LowerCovers.l1 k3 t350 x5_2 (rd_L1 t350 x24_2) (!t356) t350 (t350.length : Int) x24_2 t350 (t350.length : Int) (wrap64 (x30_3 + 1)))))) = some (r1, r2) := by rw [if_pos rfl] at H; exact H
                       clear H; have H := H1; clear H1; replace H := zay.mp H; obtain ⟨t355, A200, H⟩ := H
                       replace H : (if t355 = true then (spec_LowerCovers.l1 k3 t350 x5_2 (rd_L1 t350 x24_2) true t350 (t350.length : Int) x24_2 t350 (t350.length : Int) (wrap64 (x30_3 + 1))) else ((spec_liBelow.f k3 (rd_L1 t350 x24_2) (rd_L1 t350 x30_3)).bind fun t356 => (spec_LowerCovers.l1 k3 t350 x5_2 (rd_L1 t350 x24_2) (!t356) t350 (t350.length : Int) x24_2 t350 (t350.length : Int) (wrap64 (x30_3 + 1))))) = some (r1, r2) := H
                       have A20 := zad A200; clear A200; by_cases c21 : t355 = true
                       · subst c21
                         have H1 : (spec_LowerCovers.l1 k3 t350 x5_2 (rd_L1 t350 x24_2) true t350 (t350.length : Int) x24_2 t350 (t350.length : Int) (wrap64 (x30_3 + 1))) = some (r1, r2) := by rw [if_pos rfl] at H; exact H
                         clear H; have H := H1; clear H1; have H' := zad H
                         clear H; have p354 : 0 ≤ (x30_3 : Int) := zas (taab)
                         have q354 : x30_3 < (t350.length : Int) := zas (taab)
                         obtain ⟨ad354, A354_0, c354_0, e354, hx354_0, hl354_0, hi354_0⟩ := at_L1 (Kd.V_reads' HO_28.out).2.2 x30_3 p354 q354
                         obtain rfl : ad353 = ad354 := (by injection e354)
                         obtain ⟨ce354, hce354, hMe354, hcc354⟩ := Kd.V_get HO_28.out [] x30_3 p354 (tafe)
                         obtain ⟨ua354_0, uc354_0, rfl, ul354_0, ge354_0⟩ := Kd.FK_slice_open hMe354
                         have hv354_0 := hcc354 0 _ rfl
                         rw [Nat.add_zero, show ((Kd.slice 3 (Kd.int .i64))).sz = 1 from rfl, Nat.mul_one] at hv354_0
                         replace hv354_0 := zbf (hv354_0.symm.trans hx354_0)
                         injection hv354_0 with hva_ hvn_ hvc_
                         rw [hva_] at ge354_0
                         rw [hvc_] at ul354_0
                         have HL354_0 := zad (show Kd.V (Kd.int .i64) 3 _ w.heap.size _ _ (rd_L1 t350 x30_3) from Kd.V_mk ul354_0 ge354_0)
                         clear hva_ hvn_ hvc_ ge354_0 ul354_0 hcc354 hce354; have HR354_0 := zad hi354_0; have HC354_0 := zad hl354_0; clear hi354_0 hl354_0; replace p354 := eq_true p354
                         replace q354 := eq_true q354
                         go_wp2_with (first | (go_at_call 35; (with_reducible refine (spec_l1Same.calls k3 _ _ (rd_L1 t350 x24_2) _ _ (rd_L1 t350 x30_3) true _ ?side1 ?side2 ?side3 ?side4 A20.out).mono ?_); (case side1 => repeat (first | exact HR353_0.out | (with_reducible refine zal ?_ _) | (with_reducible refine zam ?_ _) | (with_reducible refine zan ?_))); (case side2 => exact HC353_0.out); (case side3 => repeat (first | exact (tack) | (with_reducible refine zal ?_ _) | (with_reducible refine zam ?_ _) | (with_reducible refine zan ?_))); (case side4 => exact HC354_0.out); rintro e w' ⟨rfl, ⟨nd, rfl⟩⟩))
                         go_roundg k3
                         case measure => have := HJ1.out; have := HK2.out; have := HK3.out; omega
                         case rel => exact ⟨(true), (wrap64 (x30_3 + 1)), (taad), (taad), H', ⟨taby⟩, ⟨tabg⟩, ⟨tabh⟩, ⟨tabi⟩, ⟨tabz⟩, ⟨tabk⟩, ⟨taaa⟩⟩
                       · replace c21 := zbj.mpr c21
                         subst c21; have H1 : ((spec_liBelow.f k3 (rd_L1 t350 x24_2) (rd_L1 t350 x30_3)).bind fun t356 => (spec_LowerCovers.l1 k3 t350 x5_2 (rd_L1 t350 x24_2) (!t356) t350 (t350.length : Int) x24_2 t350 (t350.length : Int) (wrap64 (x30_3 + 1)))) = some (r1, r2) := by rw [if_neg (show ¬ (false = true) by decide)] at H; exact H
                         clear H; have H := H1; clear H1; replace H := zay.mp H; obtain ⟨t356, A220, H⟩ := H
                         replace H : (spec_LowerCovers.l1 k3 t350 x5_2 (rd_L1 t350 x24_2) (!t356) t350 (t350.length : Int) x24_2 t350 (t350.length : Int) (wrap64 (x30_3 + 1))) = some (r1, r2) := H
                         have A22 := zad A220; clear A220; have H' := zad H
                         clear H; have p354 : 0 ≤ (x30_3 : Int) := zas (taab)
                         have q354 : x30_3 < (t350.length : Int) := zas (taab)
                         obtain ⟨ad354, A354_0, c354_0, e354, hx354_0, hl354_0, hi354_0⟩ := at_L1 (Kd.V_reads' HO_28.out).2.2 x30_3 p354 q354
                         obtain rfl : ad353 = ad354 := (by injection e354)
                         obtain ⟨ce354, hce354, hMe354, hcc354⟩ := Kd.V_get HO_28.out [] x30_3 p354 (tafe)
                         obtain ⟨ua354_0, uc354_0, rfl, ul354_0, ge354_0⟩ := Kd.FK_slice_open hMe354
                         have hv354_0 := hcc354 0 _ rfl
                         rw [Nat.add_zero, show ((Kd.slice 3 (Kd.int .i64))).sz = 1 from rfl, Nat.mul_one] at hv354_0
                         replace hv354_0 := zbf (hv354_0.symm.trans hx354_0)
                         injection hv354_0 with hva_ hvn_ hvc_
                         rw [hva_] at ge354_0
                         rw [hvc_] at ul354_0
                         have HL354_0 := zad (show Kd.V (Kd.int .i64) 3 _ w.heap.size _ _ (rd_L1 t350 x30_3) from Kd.V_mk ul354_0 ge354_0)
                         clear hva_ hvn_ hvc_ ge354_0 ul354_0 hcc354 hce354; have HR354_0 := zad hi354_0; have HC354_0 := zad hl354_0; clear hi354_0 hl354_0; replace p354 := eq_true p354
                         replace q354 := eq_true q354
                         go_wp2_with (first | (go_at_call 35; (with_reducible refine (spec_l1Same.calls k3 _ _ (rd_L1 t350 x24_2) _ _ (rd_L1 t350 x30_3) false _ ?side1 ?side2 ?side3 ?side4 A20.out).mono ?_); (case side1 => repeat (first | exact HR353_0.out | (with_reducible refine zal ?_ _) | (with_reducible refine zam ?_ _) | (with_reducible refine zan ?_))); (case side2 => exact HC353_0.out); (case side3 => repeat (first | exact (tack) | (with_reducible refine zal ?_ _) | (with_reducible refine zam ?_ _) | (with_reducible refine zan ?_))); (case side4 => exact HC354_0.out); rintro e w' ⟨rfl, ⟨nd, rfl⟩⟩) | (go_at_call 36; (with_reducible refine (spec_liBelow.calls k3 _ _ (rd_L1 t350 x24_2) _ _ (rd_L1 t350 x30_3) t356 _ ?side1 ?side2 ?side3 ?side4 A22.out).mono ?_); (case side1 => repeat (first | exact (tadf) | (with_reducible refine zal ?_ _) | (with_reducible refine zam ?_ _) | (with_reducible refine zan ?_))); (case side2 => exact HC353_0.out); (case side3 => repeat (first | exact (tack) | (with_reducible refine zal ?_ _) | (with_reducible refine zam ?_ _) | (with_reducible refine zan ?_))); (case side4 => exact HC354_0.out); rintro e w23 ⟨rfl, hb⟩; have n0_ := zad (Kd.V_below (tabg) hb); have n1_ := zad (Kd.V_below (tabh) hb); have n2_ := zad (Kd.V_below (tabi) hb); have n3_ := zad (Kd.V_below (tabz) hb); have n4_ := zad (Kd.V_below (by (with_reducible repeat (first | apply zbb | apply zbc | apply zbd)); exact HL354_0.out) hb); have nL_ := zad (Kd.V_below (tabk) hb); have n5_ := zad (Kd.C_below (tadf) hb); have n6_ := zad (Kd.C_below (tack) hb); have n7_ := zad (zbh (taaa) hb); clear HO_4 HO_5 HO_22 HO_28 HL354_0 HR353_0 HL353_0; have HL353_0 := nL_; clear nL_ HR354_0 HB; have HO_4 := n0_; have HO_5 := n1_; have HO_22 := n2_; have HO_28 := n3_; have HL354_0 := n4_; have HR353_0 := n5_; have HR354_0 := n6_; have HB := n7_; clear n0_ n1_ n2_ n3_ n4_ n5_ n6_ n7_; (try clear hb); (try clear hb2); (try clear hk); (try clear hi)))
                         go_roundg k3
                         case measure => have := HJ1.out; have := HK2.out; have := HK3.out; omega
                         case rel => exact ⟨(!t356), (wrap64 (x30_3 + 1)), (taad), (taad), H', ⟨taby⟩, ⟨tabg⟩, ⟨tabh⟩, ⟨tabi⟩, ⟨tabz⟩, ⟨tabk⟩, ⟨taaa⟩⟩
                     · replace c19 := zbj.mpr c19
                       subst c19; have H1 : (spec_LowerCovers.l1 k3 t350 x5_2 (rd_L1 t350 x24_2) false t350 (t350.length : Int) x24_2 t350 (t350.length : Int) (wrap64 (x30_3 + 1))) = some (r1, r2) := by rw [if_neg (show ¬ (false = true) by decide)] at H; exact H
                       clear H; have H := H1; clear H1; have H' := zad H
                       clear H; have p354 : 0 ≤ (x30_3 : Int) := zas (taab)
                       have q354 : x30_3 < (t350.length : Int) := zas (taab)
                       obtain ⟨ad354, A354_0, c354_0, e354, hx354_0, hl354_0, hi354_0⟩ := at_L1 (Kd.V_reads' HO_28.out).2.2 x30_3 p354 q354
                       obtain rfl : ad353 = ad354 := (by injection e354)
                       obtain ⟨ce354, hce354, hMe354, hcc354⟩ := Kd.V_get HO_28.out [] x30_3 p354 (tafe)
                       obtain ⟨ua354_0, uc354_0, rfl, ul354_0, ge354_0⟩ := Kd.FK_slice_open hMe354
                       have hv354_0 := hcc354 0 _ rfl
                       rw [Nat.add_zero, show ((Kd.slice 3 (Kd.int .i64))).sz = 1 from rfl, Nat.mul_one] at hv354_0
                       replace hv354_0 := zbf (hv354_0.symm.trans hx354_0)
                       injection hv354_0 with hva_ hvn_ hvc_
                       rw [hva_] at ge354_0
                       rw [hvc_] at ul354_0
                       have HL354_0 := zad (show Kd.V (Kd.int .i64) 3 _ w.heap.size _ _ (rd_L1 t350 x30_3) from Kd.V_mk ul354_0 ge354_0)
                       clear hva_ hvn_ hvc_ ge354_0 ul354_0 hcc354 hce354; have HR354_0 := zad hi354_0; have HC354_0 := zad hl354_0; clear hi354_0 hl354_0; replace p354 := eq_true p354
                       replace q354 := eq_true q354
                       go_wp2
                       go_roundg k3
                       case measure => have := HJ1.out; have := HK2.out; have := HK3.out; omega
                       case rel => exact ⟨(false), (wrap64 (x30_3 + 1)), (taad), (taad), H', ⟨taby⟩, ⟨tabg⟩, ⟨tabh⟩, ⟨tabi⟩, ⟨tabz⟩, ⟨tabk⟩, ⟨taaa⟩⟩
                   · rw [if_neg c18] at H
                     exact absurd H (taac)
                 · rw [if_neg c17] at H
                   exact absurd H (taac)
               · rw [if_neg c16] at H
                 have c16b0 : decide (x30_3 < (t350.length : Int)) = false := zbk c16
                 clear c16; by_cases c24 : x8_3 = true
                 · subst c24
                   have H1 : ((spec_liPut.f k3 x5_2 (rd_L1 t350 x24_2)).bind fun t357 => (spec_LowerCovers.l0 k3 t350 t357 t350 (t350.length : Int) (wrap64 (x24_2 + 1)))) = some (r1, r2) := by rw [if_pos rfl] at H; exact H
                   clear H; have H := H1; clear H1; replace H := zay.mp H; obtain ⟨t357, A250, H⟩ := H
                   replace H : (spec_LowerCovers.l0 k3 t350 t357 t350 (t350.length : Int) (wrap64 (x24_2 + 1))) = some (r1, r2) := H
                   have A25 := zad A250; clear A250; have H' := zad H
                   clear H; obtain ⟨Ao5_, co5_, eo5_⟩ := Kd.V_slice HO_5.out
                   subst eo5_; go_wp2_with (first | ((with_reducible refine zbi (f := 37) rfl ?_); refine zbo (some 50) rfl rfl Try.func37 (by kernel_rfl) rfl #[.slice Ao5_ x5_2.length co5_, .slice A353_0 (rd_L1 t350 x24_2).length c353_0] rfl (taae) ?_; (with_reducible refine (spec_liPut.calls k3 (fun k_ => (w.heap.size ≤ k_)) _ _ x5_2 (fun k_ => (w.heap.size ≤ k_)) _ _ (rd_L1 t350 x24_2) t357 _ ?side1 ?side2 A25.out).mono ?_); (case side1 => exact (tabh)); (case side2 => exact (tabk)); rintro e w26 ⟨v358, rfl, ho0, hb⟩; refine ⟨_, rfl, ?_⟩; have n4_ := zad (Kd.V_mono (ok' := (fun k_ => (w.heap.size ≤ k_))) ho0 (fun k_ hk => hk.elim (fun hk => hk.elim (fun hk => hk) (fun hk => hk)) (fun hk => Nat.le_trans (zbl (taaa)) hk))); have n0_ := zad (Kd.V_below (tabg) hb); have n1_ := zad (Kd.V_below (tabh) hb); have n2_ := zad (Kd.V_below (tabi) hb); have n3_ := zad (Kd.V_below (tabz) hb);  have nL_ := zad (Kd.V_below (tabk) hb); have n5_ := zad (Kd.C_below (tadf) hb); have n6_ := zad (zbh (taaa) hb); clear HO_4 HO_5 HO_22 HO_28 HR353_0 HL353_0; have HL353_0 := nL_; clear nL_ HB; have HO_4 := n0_; have HO_5 := n1_; have HO_22 := n2_; have HO_28 := n3_; have HO359 := n4_; have HR353_0 := n5_; have HB := n6_; clear n0_ n1_ n2_ n3_ n4_ n5_ n6_; (try clear hb); (try clear hb2); (try clear hk); (try clear hi); (try clear ho0)))
                   go_roundg k3
                   case measure => have := HJ1.out; have := HK2.out; have := HK3.out; omega
                   case rel => exact ⟨(t357), (wrap64 (x24_2 + 1)), (taad), H', ⟨taby⟩, ⟨tabg⟩, ⟨by (with_reducible repeat (first | apply zbb | apply zbc | apply zbd)); exact HO359.out⟩, ⟨tabi⟩, ⟨taaa⟩⟩
                 · replace c24 := zbj.mpr c24
                   subst c24; have H1 : (spec_LowerCovers.l0 k3 t350 x5_2 t350 (t350.length : Int) (wrap64 (x24_2 + 1))) = some (r1, r2) := by rw [if_neg (show ¬ (false = true) by decide)] at H; exact H
                   clear H; have H := H1; clear H1; have H' := zad H
                   clear H; go_wp2
                   go_roundg k3
                   case measure => have := HJ1.out; have := HK2.out; have := HK3.out; omega
                   case rel => exact ⟨(x5_2), (wrap64 (x24_2 + 1)), (taad), H', ⟨taby⟩, ⟨tabg⟩, ⟨tabh⟩, ⟨tabi⟩, ⟨taaa⟩⟩
           · rw [if_neg c15] at H
             exact absurd H (taac)
         · rw [if_neg c14] at H
           exact absurd H (taac)
       · rw [if_neg c13] at H
         have c13b0 : decide (x24_2 < (t350.length : Int)) = false := zbk c13
         clear c13; simp only [zbm, zbq] at H
         obtain ⟨rfl, rfl⟩ := H
         go_wp2
         go_ret2
         exact ⟨_, taaf, tabh, taaa⟩
mutual
def laws_FnCoversOfLists.j0 : Nat → List Int → List Int → List (List Int) → Bool → Bool → Option (Bool)
 | 0, _, _, _, _, _ => none
 | k + 1, x1, x5, x6, x9, x56 => if x56 = true then (some false) else ((spec_DrawAllRankings.f x1).bind fun bt710 => ((impl_AllRankings.f k bt710.1 bt710.2).bind fun bt712 => ((spec_AllRankings.f k bt710.1 bt710.2).bind fun bt716 => (if (bt712.2 != bt716.2) = true then (laws_FnCoversOfLists.j1 k x5 x6 x9 bt710.1 bt710.2 bt712.1 true) else ((laws_pSameRows.f k bt712.1 bt716.1).bind fun t720 => (laws_FnCoversOfLists.j1 k x5 x6 x9 bt710.1 bt710.2 bt712.1 (!t720)))))))
def laws_FnCoversOfLists.j1 : Nat → List Int → List (List Int) → Bool → Int → Int → List (List Int) → Bool → Option (Bool)
 | 0, _, _, _, _, _, _, _ => none
 | k + 1, x5, x6, x9, x10, x11, x12, x82 => if x82 = true then (some false) else (laws_FnCoversOfLists.l0 k x5 x6 x9 x10 x11 x12 x12 (x12.length : Int) 0)
def laws_FnCoversOfLists.l0 : Nat → List Int → List (List Int) → Bool → Int → Int → List (List Int) → List (List Int) → Int → Int → Option (Bool)
 | 0, _, _, _, _, _, _, _, _, _ => none
 | k + 1, x5, x6, x9, x10, x11, x12, x83, x84, x85 => if x85 < x84 then (if 0 ≤ x85 then (if x85 < (x83.length : Int) then ((impl_RankingOf.f k (rd_L1 x83 x85)).bind fun bt722 => (if bt722.2 = true then ((laws_pSame.f k bt722.1 (rd_L1 x83 x85)).bind fun t726 => (if t726 = true then ((laws_pSum.f k (rd_L1 x83 x85)).bind fun t727 => (if t727 = x11 then (if ((rd_L1 x83 x85).length : Int) = x10 then (if x85 > 0 then (if 0 ≤ (wrap64 (x85 - 1)) then (if (wrap64 (x85 - 1)) < (x12.length : Int) then ((laws_pBelow.f k (rd_L1 x12 (wrap64 (x85 - 1))) (rd_L1 x83 x85)).bind fun t729 => (if t729 = true then (some false) else (laws_FnCoversOfLists.l0 k x5 x6 x9 x10 x11 x12 x83 x84 (wrap64 (x85 + 1))))) else (none)) else (none)) else (laws_FnCoversOfLists.l0 k x5 x6 x9 x10 x11 x12 x83 x84 (wrap64 (x85 + 1)))) else (some false)) else (some false))) else (some false))) else (some false))) else (none)) else (none)) else (if x9 = true then ((impl_BelowOf.f k x5).bind fun bt730 => (if bt730.2 = true then (laws_FnCoversOfLists.j3 k x5 x6 bt730.1 bt730.2 (decide ((bt730.1.length : Int) > 120))) else (laws_FnCoversOfLists.j3 k x5 x6 bt730.1 bt730.2 true))) else (some true))
def laws_FnCoversOfLists.j3 : Nat → List Int → List (List Int) → List (List Int) → Bool → Bool → Option (Bool)
 | 0, _, _, _, _, _ => none
 | k + 1, x5, x6, x20, x21, x142 => if x142 = true then (some x21) else ((impl_RankingOf.f k x5).bind fun bt734 => (if bt734.2 = true then (if (x20.length : Int) = 0 then (laws_FnCoversOfLists.j4 k x5 x6 x20 bt734.1 true) else (if 0 < (x20.length : Int) then ((laws_pSame.f k (rd_L1 x20 0) bt734.1).bind fun t739 => (laws_FnCoversOfLists.j4 k x5 x6 x20 bt734.1 (!t739))) else (none))) else (laws_FnCoversOfLists.j4 k x5 x6 x20 bt734.1 true)))
def laws_FnCoversOfLists.j4 : Nat → List Int → List (List Int) → List (List Int) → List Int → Bool → Option (Bool)
 | 0, _, _, _, _, _ => none
 | k + 1, x5, x6, x20, x22, x163 => if x163 = true then (some false) else (if 1 ≤ (x20.length : Int) then ((some (x20.drop 1 : List (List Int))).bind fun y740 => (laws_FnCoversOfLists.l1 k x5 x6 x20 x22 y740 (y740.length : Int) 0)) else (none))
def laws_FnCoversOfLists.l1 : Nat → List Int → List (List Int) → List (List Int) → List Int → List (List Int) → Int → Int → Option (Bool)
 | 0, _, _, _, _, _, _, _ => none
 | k + 1, x5, x6, x20, x22, x165, x166, x167 => if x167 < x166 then (if 0 ≤ x167 then (if x167 < (x165.length : Int) then ((laws_pBelow.f k (rd_L1 x165 x167) x5).bind fun t745 => (if t745 = true then (laws_FnCoversOfLists.l2 k x5 x6 x20 x22 (rd_L1 x165 x167) 0 x165 x166 x167 x6 (x6.length : Int) 0) else (some false))) else (none)) else (none)) else (laws_FnCoversOfLists.l3 k x20 x22 x6 (x6.length : Int) 0)
def laws_FnCoversOfLists.l2 : Nat → List Int → List (List Int) → List (List Int) → List Int → List Int → Int → List (List Int) → Int → Int → List (List Int) → Int → Int → Option (Bool)
 | 0, _, _, _, _, _, _, _, _, _, _, _, _ => none
 | k + 1, x5, x6, x20, x22, x25, x26, x165, x166, x167, x175, x176, x177 => if x177 < x176 then (if 0 ≤ x177 then (if x177 < (x175.length : Int) then ((laws_pBelow.f k x25 (rd_L1 x175 x177)).bind fun t747 => (if t747 = true then (laws_FnCoversOfLists.l2 k x5 x6 x20 x22 x25 (wrap64 (x26 + 1)) x165 x166 x167 x175 x176 (wrap64 (x177 + 1))) else (laws_FnCoversOfLists.l2 k x5 x6 x20 x22 x25 x26 x165 x166 x167 x175 x176 (wrap64 (x177 + 1))))) else (none)) else (none)) else (if x26 = 0 then (some false) else (laws_FnCoversOfLists.l1 k x5 x6 x20 x22 x165 x166 (wrap64 (x167 + 1))))
def laws_FnCoversOfLists.l3 : Nat → List (List Int) → List Int → List (List Int) → Int → Int → Option (Bool)
 | 0, _, _, _, _, _ => none
 | k + 1, x20, x22, x190, x191, x192 => if x192 < x191 then (if 0 ≤ x192 then (if x192 < (x190.length : Int) then ((laws_pHasRow.f k x20 (rd_L1 x190 x192)).bind fun t767 => (if t767 = true then ((laws_pSame.f k (rd_L1 x190 x192) x22).bind fun t768 => (if t768 = true then (some false) else (laws_FnCoversOfLists.l4 k x20 x22 (rd_L1 x190 x192) x190 x191 x192 x20 (x20.length : Int) 0))) else (some false))) else (none)) else (none)) else (some true)
def laws_FnCoversOfLists.l4 : Nat → List (List Int) → List Int → List Int → List (List Int) → Int → Int → List (List Int) → Int → Int → Option (Bool)
 | 0, _, _, _, _, _, _, _, _, _ => none
 | k + 1, x20, x22, x30, x190, x191, x192, x205, x206, x207 => if x207 < x206 then (if 0 ≤ x207 then (if x207 < (x205.length : Int) then ((laws_pBelow.f k x30 (rd_L1 x205 x207)).bind fun t770 => (if t770 = true then ((laws_pSame.f k (rd_L1 x205 x207) x30).bind fun t771 => (if t771 = true then (laws_FnCoversOfLists.l4 k x20 x22 x30 x190 x191 x192 x205 x206 (wrap64 (x207 + 1))) else ((laws_pSame.f k (rd_L1 x205 x207) x22).bind fun t772 => (if t772 = true then (laws_FnCoversOfLists.l4 k x20 x22 x30 x190 x191 x192 x205 x206 (wrap64 (x207 + 1))) else (some false))))) else (laws_FnCoversOfLists.l4 k x20 x22 x30 x190 x191 x192 x205 x206 (wrap64 (x207 + 1))))) else (none)) else (none)) else (laws_FnCoversOfLists.l3 k x20 x22 x190 x191 (wrap64 (x192 + 1)))
end
def laws_FnCoversOfLists.f (k : Nat) (l0 : List Int) (l1 : List Int) : Option (Bool) := (laws_big.f l0 l1).bind fun t697 => (if t697 = true then (some true) else ((spec_DrawLowerCovers.f k l0).bind fun t698 => ((impl_LowerCovers.f k t698).bind fun bt701 => ((spec_LowerCovers.f k t698).bind fun bt705 => (if (bt701.2 != bt705.2) = true then (laws_FnCoversOfLists.j0 k l1 t698 bt701.1 bt705.2 true) else ((laws_pSameRows.f k bt701.1 bt705.1).bind fun t709 => (laws_FnCoversOfLists.j0 k l1 t698 bt701.1 bt705.2 (!t709))))))))
theorem laws_FnCoversOfLists.calls (k : Nat) (A0 : Option Addr) (c0 : Nat) (l0 : List Int) (A1 : Option Addr) (c1 : Nat) (l1 : List Int) (r : Bool) (w : World) (hr0 : Kd.C (Kd.int .u8) w A0 l0.length l0) (hc0 : l0.length ≤ c0) (hr1 : Kd.C (Kd.int .u8) w A1 l1.length l1) (hc1 : l1.length ≤ c1) (h : laws_FnCoversOfLists.f k l0 l1 = some r) :
 Calls Try.prog 5 #[.slice A0 l0.length c0, .slice A1 l1.length c1] w fun e w' => e = .returned (.bool r) ∧ Below w.heap.size w w' := by
 have HR0 := zad hr0; have HC0 := zad hc0; clear hr0 hc0; have HR1 := zad hr1; have HC1 := zad hc1; clear hr1 hc1; have HB := zad (Below.refl w.heap.size w)
 have H : ((laws_big.f l0 l1).bind fun t697 => (if t697 = true then (some true) else ((spec_DrawLowerCovers.f k l0).bind fun t698 => ((impl_LowerCovers.f k t698).bind fun bt701 => ((spec_LowerCovers.f k t698).bind fun bt705 => (if (bt701.2 != bt705.2) = true then (laws_FnCoversOfLists.j0 k l1 t698 bt701.1 bt705.2 true) else ((laws_pSameRows.f k bt701.1 bt705.1).bind fun t709 => (laws_FnCoversOfLists.j0 k l1 t698 bt701.1 bt705.2 (!t709))))))))) = some r := h
 clear h; replace H := zay.mp H; obtain ⟨t697, A30, H⟩ := H
 replace H : (if t697 = true then (some true) else ((spec_DrawLowerCovers.f k l0).bind fun t698 => ((impl_LowerCovers.f k t698).bind fun bt701 => ((spec_LowerCovers.f k t698).bind fun bt705 => (if (bt701.2 != bt705.2) = true then (laws_FnCoversOfLists.j0 k l1 t698 bt701.1 bt705.2 true) else ((laws_pSameRows.f k bt701.1 bt705.1).bind fun t709 => (laws_FnCoversOfLists.j0 k l1 t698 bt701.1 bt705.2 (!t709)))))))) = some r := H
 have A3 := zad A30; clear A30; by_cases c4 : t697 = true
 · subst c4
   have H1 : (some true) = some r := by rw [if_pos rfl] at H; exact H
   clear H; have H := H1; clear H1; obtain rfl := zbf H
   go_enter Try.func5, Try.ntmps5
   go_wp2_with (first | ((with_reducible refine zbi (f := 14) rfl ?_); refine zbo (some 35) rfl rfl Try.func14 (by kernel_rfl) rfl #[.slice A0 l0.length c0, .slice A1 l1.length c1] rfl (taae) ?_; (with_reducible refine (laws_big.calls _ _ l0 _ _ l1 true _ ?side1 ?side2 ?side3 ?side4 A3.out).mono ?_); (case side1 => exact tafn); (case side2 => exact HC0.out); (case side3 => exact tafo); (case side4 => exact HC1.out); rintro e w' ⟨rfl, ⟨nd, rfl⟩⟩; refine ⟨_, rfl, ?_⟩))
   go_ret
   exact ⟨taaf, taaa⟩
 · replace c4 := zbj.mpr c4
   subst c4; have H1 : ((spec_DrawLowerCovers.f k l0).bind fun t698 => ((impl_LowerCovers.f k t698).bind fun bt701 => ((spec_LowerCovers.f k t698).bind fun bt705 => (if (bt701.2 != bt705.2) = true then (laws_FnCoversOfLists.j0 k l1 t698 bt701.1 bt705.2 true) else ((laws_pSameRows.f k bt701.1 bt705.1).bind fun t709 => (laws_FnCoversOfLists.j0 k l1 t698 bt701.1 bt705.2 (!t709))))))) = some r := by rw [if_neg (show ¬ (false = true) by decide)] at H; exact H
   clear H; have H := H1; clear H1; replace H := zay.mp H; obtain ⟨t698, A50, H⟩ := H
   replace H : ((impl_LowerCovers.f k t698).bind fun bt701 => ((spec_LowerCovers.f k t698).bind fun bt705 => (if (bt701.2 != bt705.2) = true then (laws_FnCoversOfLists.j0 k l1 t698 bt701.1 bt705.2 true) else ((laws_pSameRows.f k bt701.1 bt705.1).bind fun t709 => (laws_FnCoversOfLists.j0 k l1 t698 bt701.1 bt705.2 (!t709)))))) = some r := H
   have A5 := zad A50; clear A50; replace H := zay.mp H; obtain ⟨⟨t701, t702⟩, A60, H⟩ := H
   replace H : ((spec_LowerCovers.f k t698).bind fun bt705 => (if (t702 != bt705.2) = true then (laws_FnCoversOfLists.j0 k l1 t698 t701 bt705.2 true) else ((laws_pSameRows.f k t701 bt705.1).bind fun t709 => (laws_FnCoversOfLists.j0 k l1 t698 t701 bt705.2 (!t709))))) = some r := H
   have A6 := zad A60; clear A60; replace H := zay.mp H; obtain ⟨⟨t705, t708⟩, A70, H⟩ := H
   replace H : (if (t702 != t708) = true then (laws_FnCoversOfLists.j0 k l1 t698 t701 t708 true) else ((laws_pSameRows.f k t701 t705).bind fun t709 => (laws_FnCoversOfLists.j0 k l1 t698 t701 t708 (!t709)))) = some r := H
   have A7 := zad A70; clear A70; have HC8 := zad H; clear H; go_enter Try.func5, Try.ntmps5
   go_upto_region 6 with (first | ((with_reducible refine zbi (f := 14) rfl ?_); refine zbo (some 35) rfl rfl Try.func14 (by kernel_rfl) rfl #[.slice A0 l0.length c0, .slice A1 l1.length c1] rfl (taae) ?_; (with_reducible refine (laws_big.calls _ _ l0 _ _ l1 false _ ?side1 ?side2 ?side3 ?side4 A3.out).mono ?_); (case side1 => repeat (first | exact HR0.out | (with_reducible refine zal ?_ _) | (with_reducible refine zam ?_ _) | (with_reducible refine zan ?_))); (case side2 => exact HC0.out); (case side3 => repeat (first | exact HR1.out | (with_reducible refine zal ?_ _) | (with_reducible refine zam ?_ _) | (with_reducible refine zan ?_))); (case side4 => exact HC1.out); rintro e w' ⟨rfl, ⟨nd, rfl⟩⟩; refine ⟨_, rfl, ?_⟩) | ((with_reducible refine zbi (f := 25) rfl ?_); refine zbo (some 37) rfl rfl Try.func25 (by kernel_rfl) rfl #[.slice A0 l0.length c0] rfl (taae) ?_; (with_reducible refine (spec_DrawLowerCovers.calls k _ _ l0 t698 _ ?side1 ?side2 A5.out).mono ?_); (case side1 => repeat (first | exact HR0.out | (with_reducible refine zal ?_ _) | (with_reducible refine zam ?_ _) | (with_reducible refine zan ?_))); (case side2 => exact HC0.out); rintro e w9 ⟨v699, rfl, ho0, hb⟩; refine ⟨_, rfl, ?_⟩; have n0_ := zad (zbu ho0 (zbl (taaa))); have n1_ := zad (zbh (taaa) hb); clear HB; have HO700 := n0_; have HB := n1_; clear n0_ n1_; (try clear hb); (try clear hb2); (try clear hk); (try clear hi); (try clear ho0); obtain ⟨Ao10, co10, eo10⟩ := zbv HO700.out; subst eo10) | ((with_reducible refine zbi (f := 8) rfl ?_); refine zbo (some 40) rfl rfl Try.func8 (by kernel_rfl) rfl #[.slice Ao10 t698.length co10] rfl (taae) ?_; (with_reducible refine (impl_LowerCovers.calls k _ _ t698 t701 t702 _ ?side1 ?side2 A6.out).mono ?_); (case side1 => repeat (first | exact (zbg HO700.out).2.2 | (with_reducible refine zal ?_ _) | (with_reducible refine zam ?_ _) | (with_reducible refine zan ?_))); (case side2 => exact (zbg HO700.out).2.1); rintro e w11 ⟨v703, rfl, ho0, hb⟩; refine ⟨_, rfl, ?_⟩; have n0_ := zad (zbt (tabt) hb); have n1_ := zad (Kd.S_lower (Kd.S_new' ho0 (zca (tabt))) (zbl (taaa))); have n2_ := zad (zbh (taaa) hb); clear HO700 HB; have HO700 := n0_; have HO704 := n1_; have HB := n2_; clear n0_ n1_ n2_; (try clear hb); (try clear hb2); (try clear hk); (try clear hi); (try clear ho0)) | ((with_reducible refine zbi (f := 6) rfl ?_); refine zbo (some 45) rfl rfl Try.func6 (by kernel_rfl) rfl #[.slice Ao10 t698.length co10] rfl (taae) ?_; (with_reducible refine (spec_LowerCovers.calls k _ _ t698 t705 t708 _ ?side1 ?side2 A7.out).mono ?_); (case side1 => repeat (first | exact (zbg HO700.out).2.2 | (with_reducible refine zal ?_ _) | (with_reducible refine zam ?_ _) | (with_reducible refine zan ?_))); (case side2 => exact (zbg HO700.out).2.1); rintro e w12 ⟨v706, rfl, ho0, hb⟩; refine ⟨_, rfl, ?_⟩; have n0_ := zad (zbt (tabt) hb); have n1_ := zad (Kd.S_below (taej) hb); have n2_ := zad (Kd.V_lower (Kd.V_mono (ok' := fun k_ => some k_ ≠ (.slice Ao10 t698.length co10 : Value).ownBlock ∧ some k_ ≠ (v703 : Value).ownBlock) ho0 (fun k_ hk_ => ⟨(Kd.fresh' (zca (tabt)) k_ hk_), (Kd.fresh' (Kd.S_lt (taej)) k_ hk_)⟩)) (zbl (taaa))); have n3_ := zad (zbh (taaa) hb); clear HO700 HO704 HB; have HO700 := n0_; have HO704 := n1_; have HO707 := n2_; have HB := n3_; clear n0_ n1_ n2_ n3_; (try clear hb); (try clear hb2); (try clear hk); (try clear hi); (try clear ho0)))
   (try simp only [Act.put, zaa, zab, zac])
   go_cut [56] (fun v56 wc => ∃ (kq : Nat) (x56_7 : Bool), v56 = .bool x56_7 ∧ Aside0 (laws_FnCoversOfLists.j0 kq l1 t698 t701 t708 x56_7 = some r) ∧ Aside0 (kq ≤ k) ∧ Aside0 (Kd.R (Kd.int .i64) 3 wc w.heap.size (fun _ => True) (.slice Ao10 t698.length co10) t698) ∧ Aside0 (Kd.S (Kd.slice 3 (Kd.int .i64)) 22 wc w.heap.size (fun k_ => some k_ ≠ ((.slice Ao10 t698.length co10) : Value).ownBlock) v703 t701) ∧ Aside0 (Below w.heap.size w wc))
   case first => as_aux_lemma =>
    have H := HC8.out
    clear HC8; by_cases c13 : (t702 != t708) = true
    · rw [if_pos c13] at H
      have c13b0 : (t702 != t708) = true := c13
      (try (have c13b1 : decide (t702 = t708) = false := by simpa using c13))
      (try (have c13b2 : (t702 == t708) = false := by simpa using c13))
      (try (have c13b3 : ¬ (t702 = t708) := by simpa using c13))
      clear c13; (first | rw [c13b0] | (simp only [i64_w, i32_w]; rw [c13b0]) | skip)
      have H' := zad H
      clear H; go_wp2
      go_meet
      case rel => exact ⟨_, (true), (taad), H', ⟨tabn⟩, ⟨tabt⟩, ⟨taek⟩, ⟨taaa⟩⟩
    · rw [if_neg c13] at H
      have c13b0 : (t702 != t708) = false := by simpa using c13
      (try (have c13b1 : decide (t702 = t708) = true := by simpa using c13))
      (try (have c13b2 : (t702 == t708) = true := by simpa using c13))
      clear c13; (first | rw [c13b0] | (simp only [i64_w, i32_w]; rw [c13b0]) | skip)
      replace H := zay.mp H; obtain ⟨t709, A140, H⟩ := H
      replace H : (laws_FnCoversOfLists.j0 k l1 t698 t701 t708 (!t709)) = some r := H
      have A14 := zad A140; clear A140; have H' := zad H
      clear H; obtain ⟨Ao15, co15, eo15⟩ := Kd.S_slice HO704.out
      subst eo15; obtain ⟨Ao16, co16, eo16⟩ := Kd.V_slice HO707.out
      subst eo16; go_wp2_with (first | (go_at_call 26; (with_reducible refine (laws_pSameRows.calls k _ _ t701 _ _ t705 t709 _ ?side1 ?side2 ?side3 ?side4 A14.out).mono ?_); (case side1 => repeat (first | exact (Kd.S_reads' HO704.out).2.2 | (with_reducible refine zal ?_ _) | (with_reducible refine zam ?_ _) | (with_reducible refine zan ?_))); (case side2 => exact (Kd.S_reads' HO704.out).2.1); (case side3 => repeat (first | exact (Kd.V_reads' HO707.out).2.2 | (with_reducible refine zal ?_ _) | (with_reducible refine zam ?_ _) | (with_reducible refine zan ?_))); (case side4 => exact (Kd.V_reads' HO707.out).2.1); rintro e w' ⟨rfl, ⟨nd, rfl⟩⟩))
      go_meet
      case rel => exact ⟨_, (!t709), (taad), H', ⟨tabn⟩, ⟨tabt⟩, ⟨taek⟩, ⟨taaa⟩⟩
   case rest => as_aux_lemma =>
    clear HC8; try clear c1
    try clear c2
    try clear p2
    try clear c4
    try clear c5
    try clear c6
    try clear c8
    try clear c13
    try clear c13b0
    try clear c13b1
    try clear c13b2
    try clear c14
    obtain ⟨kq, x56_7, rfl, HA, HJ7, HO_5, HO_6, HB⟩ := hcut
    cases kq with
    | zero => exact absurd HA.out (by simp [laws_FnCoversOfLists.j0])
    | succ kj7 =>
     have H := HA.out
     clear HA; simp only [laws_FnCoversOfLists.j0] at H
     by_cases c17 : x56_7 = true
     · subst c17
       have H1 : (some false) = some r := by rw [if_pos rfl] at H; exact H
       clear H; have H := H1; clear H1; obtain rfl := zbf H
       go_wp2
       go_ret
       exact ⟨taaf, taaa⟩
     · replace c17 := zbj.mpr c17
       subst c17; have H1 : ((spec_DrawAllRankings.f l1).bind fun bt710 => ((impl_AllRankings.f kj7 bt710.1 bt710.2).bind fun bt712 => ((spec_AllRankings.f kj7 bt710.1 bt710.2).bind fun bt716 => (if (bt712.2 != bt716.2) = true then (laws_FnCoversOfLists.j1 kj7 t698 t701 t708 bt710.1 bt710.2 bt712.1 true) else ((laws_pSameRows.f kj7 bt712.1 bt716.1).bind fun t720 => (laws_FnCoversOfLists.j1 kj7 t698 t701 t708 bt710.1 bt710.2 bt712.1 (!t720))))))) = some r := by rw [if_neg (show ¬ (false = true) by decide)] at H; exact H
       clear H; have H := H1; clear H1; replace H := zay.mp H; obtain ⟨⟨t710, t711⟩, A180, H⟩ := H
       replace H : ((impl_AllRankings.f kj7 t710 t711).bind fun bt712 => ((spec_AllRankings.f kj7 t710 t711).bind fun bt716 => (if (bt712.2 != bt716.2) = true then (laws_FnCoversOfLists.j1 kj7 t698 t701 t708 t710 t711 bt712.1 true) else ((laws_pSameRows.f kj7 bt712.1 bt716.1).bind fun t720 => (laws_FnCoversOfLists.j1 kj7 t698 t701 t708 t710 t711 bt712.1 (!t720)))))) = some r := H
       have A18 := zad A180; clear A180; replace H := zay.mp H; obtain ⟨⟨t712, t713⟩, A190, H⟩ := H
       replace H : ((spec_AllRankings.f kj7 t710 t711).bind fun bt716 => (if (t713 != bt716.2) = true then (laws_FnCoversOfLists.j1 kj7 t698 t701 t708 t710 t711 t712 true) else ((laws_pSameRows.f kj7 t712 bt716.1).bind fun t720 => (laws_FnCoversOfLists.j1 kj7 t698 t701 t708 t710 t711 t712 (!t720))))) = some r := H
       have A19 := zad A190; clear A190; replace H := zay.mp H; obtain ⟨⟨t716, t717⟩, A200, H⟩ := H
       replace H : (if (t713 != t717) = true then (laws_FnCoversOfLists.j1 kj7 t698 t701 t708 t710 t711 t712 true) else ((laws_pSameRows.f kj7 t712 t716).bind fun t720 => (laws_FnCoversOfLists.j1 kj7 t698 t701 t708 t710 t711 t712 (!t720)))) = some r := H
       have A20 := zad A200; clear A200; have HC21 := zad H; clear H; go_upto_region 11 with (first | ((with_reducible refine zbi (f := 27) rfl ?_); refine zbo (some 59) rfl rfl Try.func27 (by kernel_rfl) rfl #[.slice A1 l1.length c1] rfl (taae) ?_; (with_reducible refine (spec_DrawAllRankings.calls _ _ l1 t710 t711 _ ?side1 ?side2 A18.out).mono ?_); (case side1 => repeat (first | exact (Kd.C_below HR1.out HB.out) | (with_reducible refine zal ?_ _) | (with_reducible refine zam ?_ _) | (with_reducible refine zan ?_))); (case side2 => exact HC1.out); rintro e w22 ⟨rfl, hb⟩; refine ⟨_, rfl, ?_⟩; have n0_ := zad (zbt (taah) hb); have n1_ := zad (Kd.S_below (taam) hb); have n2_ := zad (zbh (taaa) hb); clear HO_5 HO_6 HB; have HO_5 := n0_; have HO_6 := n1_; have HB := n2_; clear n0_ n1_ n2_; (try clear hb); (try clear hb2); (try clear hk); (try clear hi)) | ((with_reducible refine zbi (f := 28) rfl ?_); refine zbo (some 65) rfl rfl Try.func28 (by kernel_rfl) rfl #[.int .i64 t710, .int .i64 t711] rfl (taae) ?_; (with_reducible refine (impl_AllRankings.calls kj7 t710 t711 t712 t713 _ A19.out).mono ?_); rintro e w23 ⟨v714, rfl, ho0, hb⟩; refine ⟨_, rfl, ?_⟩; have n0_ := zad (zbt (taah) hb); have n1_ := zad (Kd.S_elder' (taam) (Kd.S_base ho0) hb); have n2_ := zad (Kd.S_lower (Kd.S_new' (Kd.S_new' ho0 (zca (taah))) (Kd.S_lt (taam))) (zbl (taaa))); have n3_ := zad (zbh (taaa) hb); clear HO_5 HO_6 HB; have HO_5 := n0_; have HO_6 := n1_; have HO715 := n2_; have HB := n3_; clear n0_ n1_ n2_ n3_; (try clear hb); (try clear hb2); (try clear hk); (try clear hi); (try clear ho0)) | ((with_reducible refine zbi (f := 29) rfl ?_); refine zbo (some 71) rfl rfl Try.func29 (by kernel_rfl) rfl #[.int .i64 t710, .int .i64 t711] rfl (taae) ?_; (with_reducible refine (spec_AllRankings.calls kj7 t710 t711 t716 t717 _ A20.out).mono ?_); rintro e w24 ⟨v718, rfl, ho0, hb⟩; refine ⟨_, rfl, ?_⟩; have n0_ := zad (zbt (taah) hb); have n1_ := zad (Kd.S_elder' (taam) (Kd.S_base ho0) hb); have n2_ := zad (Kd.S_elder' (tael) (Kd.S_base ho0) hb); have n3_ := zad (Kd.S_lower (Kd.S_new' (Kd.S_new' (Kd.S_new' ho0 (zca (taah))) (Kd.S_lt (taam))) (Kd.S_lt (tael))) (zbl (taaa))); have n4_ := zad (zbh (taaa) hb); clear HO_5 HO_6 HO715 HB; have HO_5 := n0_; have HO_6 := n1_; have HO715 := n2_; have HO719 := n3_; have HB := n4_; clear n0_ n1_ n2_ n3_ n4_; (try clear hb); (try clear hb2); (try clear hk); (try clear hi); (try clear ho0)))
       (try simp only [Act.put, zaa, zab, zac])
       go_cut [82] (fun v82 wc => ∃ (kq : Nat) (x82_20 : Bool), v82 = .bool x82_20 ∧ Aside0 (laws_FnCoversOfLists.j1 kq t698 t701 t708 t710 t711 t712 x82_20 = some r) ∧ Aside0 (kq ≤ kj7) ∧ Aside0 (Kd.R (Kd.int .i64) 3 wc w.heap.size (fun _ => True) (.slice Ao10 t698.length co10) t698) ∧ Aside0 (Kd.S (Kd.slice 3 (Kd.int .i64)) 22 wc w.heap.size (fun k_ => some k_ ≠ ((.slice Ao10 t698.length co10) : Value).ownBlock ∧ some k_ ≠ (v714 : Value).ownBlock) v703 t701) ∧ Aside0 (Kd.S (Kd.slice 3 (Kd.int .i64)) 22 wc w.heap.size (fun k_ => some k_ ≠ ((.slice Ao10 t698.length co10) : Value).ownBlock ∧ some k_ ≠ (v703 : Value).ownBlock) v714 t712) ∧ Aside0 (Below w.heap.size w wc))
       case first => as_aux_lemma =>
        have H := HC21.out
        clear HC21; by_cases c25 : (t713 != t717) = true
        · rw [if_pos c25] at H
          have c25b0 : (t713 != t717) = true := c25
          (try (have c25b1 : decide (t713 = t717) = false := by simpa using c25))
          (try (have c25b2 : (t713 == t717) = false := by simpa using c25))
          (try (have c25b3 : ¬ (t713 = t717) := by simpa using c25))
          clear c25; (first | rw [c25b0] | (simp only [i64_w, i32_w]; rw [c25b0]) | skip)
          have H' := zad H
          clear H; go_wp2
          go_meet
          case rel => exact ⟨_, (true), (taad), H', ⟨by have := HJ7.out; first | omega | exact zcb _⟩, ⟨taah⟩, ⟨taem⟩, ⟨taen⟩, ⟨taaa⟩⟩
        · rw [if_neg c25] at H
          have c25b0 : (t713 != t717) = false := by simpa using c25
          (try (have c25b1 : decide (t713 = t717) = true := by simpa using c25))
          (try (have c25b2 : (t713 == t717) = true := by simpa using c25))
          clear c25; (first | rw [c25b0] | (simp only [i64_w, i32_w]; rw [c25b0]) | skip)
          replace H := zay.mp H; obtain ⟨t720, A260, H⟩ := H
          replace H : (laws_FnCoversOfLists.j1 kj7 t698 t701 t708 t710 t711 t712 (!t720)) = some r := H
          have A26 := zad A260; clear A260; have H' := zad H
          clear H; obtain ⟨Ao27, co27, eo27⟩ := Kd.S_slice HO715.out
          subst eo27; obtain ⟨Ao28, co28, eo28⟩ := Kd.S_slice HO719.out
          subst eo28; go_wp2_with (first | (go_at_call 26; (with_reducible refine (laws_pSameRows.calls kj7 _ _ t712 _ _ t716 t720 _ ?side1 ?side2 ?side3 ?side4 A26.out).mono ?_); (case side1 => repeat (first | exact (Kd.S_reads' HO715.out).2.2 | (with_reducible refine zal ?_ _) | (with_reducible refine zam ?_ _) | (with_reducible refine zan ?_))); (case side2 => exact (Kd.S_reads' HO715.out).2.1); (case side3 => repeat (first | exact (Kd.S_reads' HO719.out).2.2 | (with_reducible refine zal ?_ _) | (with_reducible refine zam ?_ _) | (with_reducible refine zan ?_))); (case side4 => exact (Kd.S_reads' HO719.out).2.1); rintro e w' ⟨rfl, ⟨nd, rfl⟩⟩))
          go_meet
          case rel => exact ⟨_, (!t720), (taad), H', ⟨by have := HJ7.out; first | omega | exact zcb _⟩, ⟨taah⟩, ⟨taem⟩, ⟨taen⟩, ⟨taaa⟩⟩
       case rest => as_aux_lemma =>
        clear HC21; try clear c1
        try clear c2
        try clear p2
        try clear c4
        try clear c5
        try clear c6
        try clear c8
        try clear c13
        try clear c13b0
        try clear c13b1
        try clear c13b2
        try clear c14
        try clear c17
        try clear c25
        try clear c25b0
        try clear c25b1
        try clear c25b2
        try clear c27
        try clear c28
        try clear p2
        obtain ⟨kq, x82_20, rfl, HA, HJ20, HO_5, HO_6, HO_12, HB⟩ := hcut
        cases kq with
        | zero => exact absurd HA.out (by simp [laws_FnCoversOfLists.j1])
        | succ kj20 =>
         have H := HA.out
         clear HA; simp only [laws_FnCoversOfLists.j1] at H
         by_cases c29 : x82_20 = true
         · subst c29
           have H1 : (some false) = some r := by rw [if_pos rfl] at H; exact H
           clear H; have H := H1; clear H1; obtain rfl := zbf H
           go_wp2
           go_ret
           exact ⟨taaf, taaa⟩
         · replace c29 := zbj.mpr c29
           subst c29; have H1 : (laws_FnCoversOfLists.l0 kj20 t698 t701 t708 t710 t711 t712 t712 (t712.length : Int) 0) = some r := by rw [if_neg (show ¬ (false = true) by decide)] at H; exact H
           clear H; have H := H1; clear H1; have H' := zad H
           clear H; obtain ⟨Ao30, co30, eo30⟩ := Kd.S_slice HO_12.out
           subst eo30; go_wp2
           go_loopg [85] kj20 (fun kq v85 w' => ∃ (x85_3 : Int), v85 = .int .i64 x85_3 ∧ Aside0 (laws_FnCoversOfLists.l0 kq t698 t701 t708 t710 t711 t712 t712 (t712.length : Int) x85_3 = some r) ∧ Aside0 (kq ≤ kj20) ∧ Aside0 (Kd.R (Kd.int .i64) 3 w' w.heap.size (fun _ => True) (.slice Ao10 t698.length co10) t698) ∧ Aside0 (Kd.S (Kd.slice 3 (Kd.int .i64)) 22 w' w.heap.size (fun k_ => some k_ ≠ ((.slice Ao10 t698.length co10) : Value).ownBlock ∧ some k_ ≠ ((.slice Ao30 t712.length co30) : Value).ownBlock ∧ some k_ ≠ ((.slice Ao30 t712.length co30) : Value).ownBlock) v703 t701) ∧ Aside0 (Kd.S (Kd.slice 3 (Kd.int .i64)) 22 w' w.heap.size (fun k_ => some k_ ≠ ((.slice Ao10 t698.length co10) : Value).ownBlock ∧ some k_ ≠ (v703 : Value).ownBlock) (.slice Ao30 t712.length co30) t712) ∧ Aside0 (Kd.S (Kd.slice 3 (Kd.int .i64)) 22 w' w.heap.size (fun k_ => some k_ ≠ ((.slice Ao10 t698.length co10) : Value).ownBlock ∧ some k_ ≠ (v703 : Value).ownBlock) (.slice Ao30 t712.length co30) t712) ∧ Aside0 (Below w.heap.size w w'))
           case atStart => exact ⟨(0), (taad), H', ⟨zcb _⟩, ⟨taah⟩, ⟨by (with_reducible repeat (first | apply Kd.S_alloc | apply Kd.S_drewN | apply Kd.S_drew)); exact Kd.S_mono HO_6.out (fun _ hk => ⟨hk.1, ⟨hk.2, hk.2⟩⟩)⟩, ⟨taaw⟩, ⟨taaw⟩, ⟨taaa⟩⟩
           case round =>
            clear H'
            try clear c1
            try clear c2
            try clear p2
            try clear c4
            try clear c5
            try clear c6
            try clear c8
            try clear c13
            try clear c13b0
            try clear c13b1
            try clear c13b2
            try clear c14
            try clear c17
            try clear c25
            try clear c25b0
            try clear c25b1
            try clear c25b2
            try clear c27
            try clear c28
            try clear c29
            try clear p2
            obtain ⟨x85_3, rfl, HA, HK3, HO_5, HO_6, HO_12, HO_83, HB⟩ := hrel
            cases gk with
            | zero => exact absurd HA.out (by simp [laws_FnCoversOfLists.l0])
            | succ k3 =>
             have H := HA.out
             clear HA; simp only [laws_FnCoversOfLists.l0] at H
             by_cases c31 : x85_3 < (t712.length : Int)
             · rw [if_pos c31] at H
               have c31b0 : decide (x85_3 < (t712.length : Int)) = true := zba c31
               clear c31; by_cases c32 : 0 ≤ x85_3
               · rw [if_pos c32] at H
                 have c32b0 : decide (0 ≤ x85_3) = true := zba c32
                 clear c32; by_cases c33 : x85_3 < (t712.length : Int)
                 · rw [if_pos c33] at H
                   have c33b0 : decide (x85_3 < (t712.length : Int)) = true := zba c33
                   clear c33; replace H := zay.mp H; obtain ⟨⟨t722, t723⟩, A340, H⟩ := H
                   replace H : (if t723 = true then ((laws_pSame.f k3 t722 (rd_L1 t712 x85_3)).bind fun t726 => (if t726 = true then ((laws_pSum.f k3 (rd_L1 t712 x85_3)).bind fun t727 => (if t727 = t711 then (if ((rd_L1 t712 x85_3).length : Int) = t710 then (if x85_3 > 0 then (if 0 ≤ (wrap64 (x85_3 - 1)) then (if (wrap64 (x85_3 - 1)) < (t712.length : Int) then ((laws_pBelow.f k3 (rd_L1 t712 (wrap64 (x85_3 - 1))) (rd_L1 t712 x85_3)).bind fun t729 => (if t729 = true then (some false) else (laws_FnCoversOfLists.l0 k3 t698 t701 t708 t710 t711 t712 t712 (t712.length : Int) (wrap64 (x85_3 + 1))))) else (none)) else (none)) else (laws_FnCoversOfLists.l0 k3 t698 t701 t708 t710 t711 t712 t712 (t712.length : Int) (wrap64 (x85_3 + 1)))) else (some false)) else (some false))) else (some false))) else (some false)) = some r := H
                   have A34 := zad A340; clear A340; by_cases c35 : t723 = true
                   · subst c35
                     have H1 : ((laws_pSame.f k3 t722 (rd_L1 t712 x85_3)).bind fun t726 => (if t726 = true then ((laws_pSum.f k3 (rd_L1 t712 x85_3)).bind fun t727 => (if t727 = t711 then (if ((rd_L1 t712 x85_3).length : Int) = t710 then (if x85_3 > 0 then (if 0 ≤ (wrap64 (x85_3 - 1)) then (if (wrap64 (x85_3 - 1)) < (t712.length : Int) then ((laws_pBelow.f k3 (rd_L1 t712 (wrap64 (x85_3 - 1))) (rd_L1 t712 x85_3)).bind fun t729 => (if t729 = true then (some false) else (laws_FnCoversOfLists.l0 k3 t698 t701 t708 t710 t711 t712 t712 (t712.length : Int) (wrap64 (x85_3 + 1))))) else (none)) else (none)) else (laws_FnCoversOfLists.l0 k3 t698 t701 t708 t710 t711 t712 t712 (t712.length : Int) (wrap64 (x85_3 + 1)))) else (some false)) else (some false))) else (some false))) = some r := by rw [if_pos rfl] at H; exact H
                     clear H; have H := H1; clear H1; replace H := zay.mp H; obtain ⟨t726, A360, H⟩ := H
                     replace H : (if t726 = true then ((laws_pSum.f k3 (rd_L1 t712 x85_3)).bind fun t727 => (if t727 = t711 then (if ((rd_L1 t712 x85_3).length : Int) = t710 then (if x85_3 > 0 then (if 0 ≤ (wrap64 (x85_3 - 1)) then (if (wrap64 (x85_3 - 1)) < (t712.length : Int) then ((laws_pBelow.f k3 (rd_L1 t712 (wrap64 (x85_3 - 1))) (rd_L1 t712 x85_3)).bind fun t729 => (if t729 = true then (some false) else (laws_FnCoversOfLists.l0 k3 t698 t701 t708 t710 t711 t712 t712 (t712.length : Int) (wrap64 (x85_3 + 1))))) else (none)) else (none)) else (laws_FnCoversOfLists.l0 k3 t698 t701 t708 t710 t711 t712 t712 (t712.length : Int) (wrap64 (x85_3 + 1)))) else (some false)) else (some false))) else (some false)) = some r := H
                     have A36 := zad A360; clear A360; by_cases c37 : t726 = true
                     · subst c37
                       have H1 : ((laws_pSum.f k3 (rd_L1 t712 x85_3)).bind fun t727 => (if t727 = t711 then (if ((rd_L1 t712 x85_3).length : Int) = t710 then (if x85_3 > 0 then (if 0 ≤ (wrap64 (x85_3 - 1)) then (if (wrap64 (x85_3 - 1)) < (t712.length : Int) then ((laws_pBelow.f k3 (rd_L1 t712 (wrap64 (x85_3 - 1))) (rd_L1 t712 x85_3)).bind fun t729 => (if t729 = true then (some false) else (laws_FnCoversOfLists.l0 k3 t698 t701 t708 t710 t711 t712 t712 (t712.length : Int) (wrap64 (x85_3 + 1))))) else (none)) else (none)) else (laws_FnCoversOfLists.l0 k3 t698 t701 t708 t710 t711 t712 t712 (t712.length : Int) (wrap64 (x85_3 + 1)))) else (some false)) else (some false))) = some r := by rw [if_pos rfl] at H; exact H
                       clear H; have H := H1; clear H1; replace H := zay.mp H; obtain ⟨t727, A380, H⟩ := H
                       replace H : (if t727 = t711 then (if ((rd_L1 t712 x85_3).length : Int) = t710 then (if x85_3 > 0 then (if 0 ≤ (wrap64 (x85_3 - 1)) then (if (wrap64 (x85_3 - 1)) < (t712.length : Int) then ((laws_pBelow.f k3 (rd_L1 t712 (wrap64 (x85_3 - 1))) (rd_L1 t712 x85_3)).bind fun t729 => (if t729 = true then (some false) else (laws_FnCoversOfLists.l0 k3 t698 t701 t708 t710 t711 t712 t712 (t712.length : Int) (wrap64 (x85_3 + 1))))) else (none)) else (none)) else (laws_FnCoversOfLists.l0 k3 t698 t701 t708 t710 t711 t712 t712 (t712.length : Int) (wrap64 (x85_3 + 1)))) else (some false)) else (some false)) = some r := H
                       have A38 := zad A380; clear A380; by_cases c39 : t727 = t711
                       · rw [if_pos c39] at H
                         have c39b0 : (t727 == t711) = true := beq_iff_eq.mpr c39
                         have c39b1 : (t727 != t711) = false := bne_eq_false_iff_eq.mpr c39
                         clear c39; by_cases c40 : ((rd_L1 t712 x85_3).length : Int) = t710
                         · rw [if_pos c40] at H
                           have c40b0 : (((rd_L1 t712 x85_3).length : Int) == t710) = true := beq_iff_eq.mpr c40
                           have c40b1 : (((rd_L1 t712 x85_3).length : Int) != t710) = false := bne_eq_false_iff_eq.mpr c40
                           clear c40; by_cases c41 : x85_3 > 0
                           · rw [if_pos c41] at H
                             have c41b0 : decide (0 < x85_3) = true := zba c41
                             clear c41; obtain ⟨ji42, hji42⟩ : ∃ j_ : Int, (wrap64 (x85_3 - 1)) = j_ := ⟨_, rfl⟩
                             replace H : (if 0 ≤ (ji42) then (if (ji42) < (t712.length : Int) then ((laws_pBelow.f k3 (rd_L1 t712 (ji42)) (rd_L1 t712 x85_3)).bind fun t729 => (if t729 = true then (some false) else (laws_FnCoversOfLists.l0 k3 t698 t701 t708 t710 t711 t712 t712 (t712.length : Int) (wrap64 (x85_3 + 1))))) else (none)) else (none)) = some r := by first | (rw [hji42] at H; exact H) | (simp only [hji42] at H ⊢; exact H)
                             (try rw [hji42] at A34)
                             (try rw [hji42] at A36)
                             (try rw [hji42] at A38)
                             have hji42w : (IntKind.i64.wrap (x85_3 - 1)) = ji42 := (i64_w _).trans hji42
                             by_cases c43 : 0 ≤ (ji42)
                             · rw [if_pos c43] at H
                               have c43b0 : decide (0 ≤ (ji42)) = true := zba c43
                               clear c43; by_cases c44 : (ji42) < (t712.length : Int)
                               · rw [if_pos c44] at H
                                 have c44b0 : decide ((ji42) < (t712.length : Int)) = true := zba c44
                                 clear c44; replace H := zay.mp H; obtain ⟨t729, A450, H⟩ := H
                                 replace H : (if t729 = true then (some false) else (laws_FnCoversOfLists.l0 k3 t698 t701 t708 t710 t711 t712 t712 (t712.length : Int) (wrap64 (x85_3 + 1)))) = some r := H
                                 have A45 := zad A450; clear A450; by_cases c46 : t729 = true
                                 · subst c46
                                   have H1 : (some false) = some r := by rw [if_pos rfl] at H; exact H
                                   clear H; have H := H1; clear H1; obtain rfl := zbf H
                                   have p721 : 0 ≤ (x85_3 : Int) := zas (taab)
                                   have q721 : x85_3 < (t712.length : Int) := zas (taab)
                                   obtain ⟨ad721, A721_0, c721_0, e721, hx721_0, hl721_0, hi721_0⟩ := at_L1 (Kd.S_reads' HO_83.out).2.2 x85_3 p721 q721
                                   cases e721
                                   obtain ⟨ce721, hce721, hMe721, hcc721⟩ := Kd.S_get HO_83.out [] x85_3 p721 (tafa)
                                   obtain ⟨ve721_0, rfl, ge721_0⟩ := hMe721
                                   have hv721_0 := hcc721 0 _ rfl
                                   rw [Nat.add_zero, show ((Kd.slice 3 (Kd.int .i64))).sz = 1 from rfl, Nat.mul_one] at hv721_0
                                   replace hv721_0 := zbf (hv721_0.symm.trans hx721_0)
                                   rw [hv721_0] at ge721_0
                                   have HL721_0 := zad (show Kd.R (Kd.int .i64) 3 _ _ _ _ (rd_L1 t712 x85_3) from ge721_0)
                                   clear hv721_0 ge721_0 hcc721 hce721; have HR721_0 := zad hi721_0; have HC721_0 := zad hl721_0; clear hi721_0 hl721_0; replace p721 := eq_true p721
                                   replace q721 := eq_true q721
                                   go_wp2_with (first | ((with_reducible refine zbi (f := 21) rfl ?_); refine zbo (some 92) rfl rfl Try.func21 (by kernel_rfl) rfl #[.slice A721_0 (rd_L1 t712 x85_3).length c721_0] rfl (taae) ?_; (with_reducible refine (impl_RankingOf.calls k3 _ _ (rd_L1 t712 x85_3) t722 true _ ?side1 ?side2 A34.out).mono ?_); (case side1 => repeat (first | exact (taaj) | (with_reducible refine zal ?_ _) | (with_reducible refine zam ?_ _) | (with_reducible refine zan ?_))); (case side2 => exact HC721_0.out); rintro e w47 ⟨v724, rfl, ho0, hb⟩; refine ⟨_, rfl, ?_⟩; have n0_ := zad (zbx (taah) (zbz ho0) hb); have n1_ := zad (Kd.S_elder' (taam) (zbz ho0) hb); have n2_ := zad (Kd.S_elder' (taaw) (zbz ho0) hb); have n3_ := zad (Kd.S_elder' (tabb) (zbz ho0) hb); have n4_ := zad (zbx (taau) (zbz ho0) hb); have n5_ := zad (zbu (zby (zby ho0 (zca (taah))) (zca (taau))) (zbl (taaa))); (first | (with_reducible have n6_ := zad (Kd.C_below (zam HR721_0.out _) hb)) | (with_reducible have n6_ := zad (Kd.C_below HR721_0.out hb)) | (have n6_ := zad (Kd.C_below (taaj) hb))); have n7_ := zad (zbh (taaa) hb); clear HO_5 HO_6 HO_12 HO_83 HL721_0 HR721_0 HB; have HO_5 := n0_; have HO_6 := n1_; have HO_12 := n2_; have HO_83 := n3_; have HL721_0 := n4_; have HO725 := n5_; have HR721_0 := n6_; have HB := n7_; clear n0_ n1_ n2_ n3_ n4_ n5_ n6_ n7_; (try clear hb); (try clear hb2); (try clear hk); (try clear hi); (try clear ho0); obtain ⟨Ao48, co48, eo48⟩ := zbv HO725.out; subst eo48) | (go_at_call 20; (with_reducible refine (laws_pSame.calls k3 _ _ t722 _ _ (rd_L1 t712 x85_3) true _ ?side1 ?side2 ?side3 ?side4 A36.out).mono ?_); (case side1 => repeat (first | exact (zbg HO725.out).2.2 | (with_reducible refine zal ?_ _) | (with_reducible refine zam ?_ _) | (with_reducible refine zan ?_))); (case side2 => exact (zbg HO725.out).2.1); (case side3 => repeat (first | exact (taaj) | (with_reducible refine zal ?_ _) | (with_reducible refine zam ?_ _) | (with_reducible refine zan ?_))); (case side4 => exact HC721_0.out); rintro e w' ⟨rfl, ⟨nd, rfl⟩⟩) | (go_at_call 24; (with_reducible refine (laws_pSum.calls k3 _ _ (rd_L1 t712 x85_3) t727 _ ?side1 ?side2 A38.out).mono ?_); (case side1 => repeat (first | exact (taaj) | (with_reducible refine zal ?_ _) | (with_reducible refine zam ?_ _) | (with_reducible refine zan ?_))); (case side2 => exact HC721_0.out); rintro e w' ⟨rfl, ⟨nd, rfl⟩⟩; have p728 : 0 ≤ ((ji42) : Int) := zas (taab); have q728 : (ji42) < (t712.length : Int) := zas (taab); obtain ⟨ad728, A728_0, c728_0, e728, hx728_0, hl728_0, hi728_0⟩ := at_L1 (Kd.S_reads' HO_12.out).2.2 (ji42) p728 q728; obtain rfl : ad721 = ad728 := (by injection e728); obtain ⟨ce728, hce728, hMe728, hcc728⟩ := Kd.S_get HO_12.out [] (ji42) p728 (tafi); obtain ⟨ve728_0, rfl, ge728_0⟩ := hMe728; have hv728_0 := hcc728 0 _ rfl; rw [Nat.add_zero, show ((Kd.slice 3 (Kd.int .i64))).sz = 1 from rfl, Nat.mul_one] at hv728_0; replace hv728_0 := zbf (hv728_0.symm.trans hx728_0); rw [hv728_0] at ge728_0; have HL728_0 := zad (show Kd.R (Kd.int .i64) 3 _ _ _ _ (rd_L1 t712 (ji42)) from ge728_0); clear hv728_0 ge728_0 hcc728 hce728; have HR728_0 := zad hi728_0; have HC728_0 := zad hl728_0; clear hi728_0 hl728_0; replace p728 := eq_true p728; replace q728 := eq_true q728) | (go_at_call 22; (with_reducible refine (laws_pBelow.calls k3 _ _ (rd_L1 t712 (ji42)) _ _ (rd_L1 t712 x85_3) true _ ?side1 ?side2 ?side3 ?side4 A45.out).mono ?_); (case side1 => repeat (first | exact (tacl) | (with_reducible refine zal ?_ _) | (with_reducible refine zam ?_ _) | (with_reducible refine zan ?_))); (case side2 => exact HC728_0.out); (case side3 => repeat (first | exact (taaj) | (with_reducible refine zal ?_ _) | (with_reducible refine zam ?_ _) | (with_reducible refine zan ?_))); (case side4 => exact HC721_0.out); rintro e w49 ⟨rfl, hb⟩; have n0_ := zad (zbt (taah) hb); have n1_ := zad (Kd.S_below (taam) hb); have n2_ := zad (Kd.S_below (taaw) hb); have n3_ := zad (Kd.S_below (tabb) hb); have n4_ := zad (zbt (taau) hb); have n5_ := zad (zbt (taeo) hb); have n6_ := zad (zbt (taep) hb); (first | (with_reducible have n7_ := zad (Kd.C_below (zam HR721_0.out _) hb)) | (with_reducible have n7_ := zad (Kd.C_below HR721_0.out hb)) | (have n7_ := zad (Kd.C_below (taaj) hb))); (first | (with_reducible have n8_ := zad (Kd.C_below (zam HR728_0.out _) hb)) | (with_reducible have n8_ := zad (Kd.C_below HR728_0.out hb)) | (have n8_ := zad (Kd.C_below (tacl) hb))); have n9_ := zad (zbh (taaa) hb); clear HO_5 HO_6 HO_12 HO_83 HL721_0 HO725 HL728_0 HR721_0 HR728_0 HB; have HO_5 := n0_; have HO_6 := n1_; have HO_12 := n2_; have HO_83 := n3_; have HL721_0 := n4_; have HO725 := n5_; have HL728_0 := n6_; have HR721_0 := n7_; have HR728_0 := n8_; have HB := n9_; clear n0_ n1_ n2_ n3_ n4_ n5_ n6_ n7_ n8_ n9_; (try clear hb); (try clear hb2); (try clear hk); (try clear hi)))
                                   go_ret
                                   exact ⟨by first | rfl | (simp [errW_none, errW_some] <;> rfl) | (simp only [← hji42]; first | rfl | (simp [errW_none, errW_some] <;> rfl)) | (simp [*, errW_none, errW_some] <;> rfl), taaa⟩
                                 · replace c46 := zbj.mpr c46
                                   subst c46; have H1 : (laws_FnCoversOfLists.l0 k3 t698 t701 t708 t710 t711 t712 t712 (t712.length : Int) (wrap64 (x85_3 + 1))) = some r := by rw [if_neg (show ¬ (false = true) by decide)] at H; exact H
                                   clear H; have H := H1; clear H1; have H' := zad H
                                   clear H; have p721 : 0 ≤ (x85_3 : Int) := zas (taab)
                                   have q721 : x85_3 < (t712.length : Int) := zas (taab)
                                   obtain ⟨ad721, A721_0, c721_0, e721, hx721_0, hl721_0, hi721_0⟩ := at_L1 (Kd.S_reads' HO_83.out).2.2 x85_3 p721 q721
                                   cases e721
                                   obtain ⟨ce721, hce721, hMe721, hcc721⟩ := Kd.S_get HO_83.out [] x85_3 p721 (tafa)
                                   obtain ⟨ve721_0, rfl, ge721_0⟩ := hMe721
                                   have hv721_0 := hcc721 0 _ rfl
                                   rw [Nat.add_zero, show ((Kd.slice 3 (Kd.int .i64))).sz = 1 from rfl, Nat.mul_one] at hv721_0
                                   replace hv721_0 := zbf (hv721_0.symm.trans hx721_0)
                                   rw [hv721_0] at ge721_0
                                   have HL721_0 := zad (show Kd.R (Kd.int .i64) 3 _ _ _ _ (rd_L1 t712 x85_3) from ge721_0)
                                   clear hv721_0 ge721_0 hcc721 hce721; have HR721_0 := zad hi721_0; have HC721_0 := zad hl721_0; clear hi721_0 hl721_0; replace p721 := eq_true p721
                                   replace q721 := eq_true q721
                                   go_wp2_with (first | ((with_reducible refine zbi (f := 21) rfl ?_); refine zbo (some 92) rfl rfl Try.func21 (by kernel_rfl) rfl #[.slice A721_0 (rd_L1 t712 x85_3).length c721_0] rfl (taae) ?_; (with_reducible refine (impl_RankingOf.calls k3 _ _ (rd_L1 t712 x85_3) t722 true _ ?side1 ?side2 A34.out).mono ?_); (case side1 => repeat (first | exact (taaj) | (with_reducible refine zal ?_ _) | (with_reducible refine zam ?_ _) | (with_reducible refine zan ?_))); (case side2 => exact HC721_0.out); rintro e w50 ⟨v724, rfl, ho0, hb⟩; refine ⟨_, rfl, ?_⟩; have n0_ := zad (zbx (taah) (zbz ho0) hb); have n1_ := zad (Kd.S_elder' (taam) (zbz ho0) hb); have n2_ := zad (Kd.S_elder' (taaw) (zbz ho0) hb); have n3_ := zad (Kd.S_elder' (tabb) (zbz ho0) hb); have n4_ := zad (zbx (taau) (zbz ho0) hb); have n5_ := zad (zbu (zby (zby ho0 (zca (taah))) (zca (taau))) (zbl (taaa))); (first | (with_reducible have n6_ := zad (Kd.C_below (zam HR721_0.out _) hb)) | (with_reducible have n6_ := zad (Kd.C_below HR721_0.out hb)) | (have n6_ := zad (Kd.C_below (taaj) hb))); have n7_ := zad (zbh (taaa) hb); clear HO_5 HO_6 HO_12 HO_83 HL721_0 HR721_0 HB; have HO_5 := n0_; have HO_6 := n1_; have HO_12 := n2_; have HO_83 := n3_; have HL721_0 := n4_; have HO725 := n5_; have HR721_0 := n6_; have HB := n7_; clear n0_ n1_ n2_ n3_ n4_ n5_ n6_ n7_; (try clear hb); (try clear hb2); (try clear hk); (try clear hi); (try clear ho0); obtain ⟨Ao51, co51, eo51⟩ := zbv HO725.out; subst eo51) | (go_at_call 20; (with_reducible refine (laws_pSame.calls k3 _ _ t722 _ _ (rd_L1 t712 x85_3) true _ ?side1 ?side2 ?side3 ?side4 A36.out).mono ?_); (case side1 => repeat (first | exact (zbg HO725.out).2.2 | (with_reducible refine zal ?_ _) | (with_reducible refine zam ?_ _) | (with_reducible refine zan ?_))); (case side2 => exact (zbg HO725.out).2.1); (case side3 => repeat (first | exact (taaj) | (with_reducible refine zal ?_ _) | (with_reducible refine zam ?_ _) | (with_reducible refine zan ?_))); (case side4 => exact HC721_0.out); rintro e w' ⟨rfl, ⟨nd, rfl⟩⟩) | (go_at_call 24; (with_reducible refine (laws_pSum.calls k3 _ _ (rd_L1 t712 x85_3) t727 _ ?side1 ?side2 A38.out).mono ?_); (case side1 => repeat (first | exact (taaj) | (with_reducible refine zal ?_ _) | (with_reducible refine zam ?_ _) | (with_reducible refine zan ?_))); (case side2 => exact HC721_0.out); rintro e w' ⟨rfl, ⟨nd, rfl⟩⟩; have p728 : 0 ≤ ((ji42) : Int) := zas (taab); have q728 : (ji42) < (t712.length : Int) := zas (taab); obtain ⟨ad728, A728_0, c728_0, e728, hx728_0, hl728_0, hi728_0⟩ := at_L1 (Kd.S_reads' HO_12.out).2.2 (ji42) p728 q728; obtain rfl : ad721 = ad728 := (by injection e728); obtain ⟨ce728, hce728, hMe728, hcc728⟩ := Kd.S_get HO_12.out [] (ji42) p728 (tafi); obtain ⟨ve728_0, rfl, ge728_0⟩ := hMe728; have hv728_0 := hcc728 0 _ rfl; rw [Nat.add_zero, show ((Kd.slice 3 (Kd.int .i64))).sz = 1 from rfl, Nat.mul_one] at hv728_0; replace hv728_0 := zbf (hv728_0.symm.trans hx728_0); rw [hv728_0] at ge728_0; have HL728_0 := zad (show Kd.R (Kd.int .i64) 3 _ _ _ _ (rd_L1 t712 (ji42)) from ge728_0); clear hv728_0 ge728_0 hcc728 hce728; have HR728_0 := zad hi728_0; have HC728_0 := zad hl728_0; clear hi728_0 hl728_0; replace p728 := eq_true p728; replace q728 := eq_true q728) | (go_at_call 22; (with_reducible refine (laws_pBelow.calls k3 _ _ (rd_L1 t712 (ji42)) _ _ (rd_L1 t712 x85_3) false _ ?side1 ?side2 ?side3 ?side4 A45.out).mono ?_); (case side1 => repeat (first | exact (tacl) | (with_reducible refine zal ?_ _) | (with_reducible refine zam ?_ _) | (with_reducible refine zan ?_))); (case side2 => exact HC728_0.out); (case side3 => repeat (first | exact (taaj) | (with_reducible refine zal ?_ _) | (with_reducible refine zam ?_ _) | (with_reducible refine zan ?_))); (case side4 => exact HC721_0.out); rintro e w52 ⟨rfl, hb⟩; have n0_ := zad (zbt (taah) hb); have n1_ := zad (Kd.S_below (taam) hb); have n2_ := zad (Kd.S_below (taaw) hb); have n3_ := zad (Kd.S_below (tabb) hb); have n4_ := zad (zbt (taau) hb); have n5_ := zad (zbt (taeo) hb); have n6_ := zad (zbt (taep) hb); (first | (with_reducible have n7_ := zad (Kd.C_below (zam HR721_0.out _) hb)) | (with_reducible have n7_ := zad (Kd.C_below HR721_0.out hb)) | (have n7_ := zad (Kd.C_below (taaj) hb))); (first | (with_reducible have n8_ := zad (Kd.C_below (zam HR728_0.out _) hb)) | (with_reducible have n8_ := zad (Kd.C_below HR728_0.out hb)) | (have n8_ := zad (Kd.C_below (tacl) hb))); have n9_ := zad (zbh (taaa) hb); clear HO_5 HO_6 HO_12 HO_83 HL721_0 HO725 HL728_0 HR721_0 HR728_0 HB; have HO_5 := n0_; have HO_6 := n1_; have HO_12 := n2_; have HO_83 := n3_; have HL721_0 := n4_; have HO725 := n5_; have HL728_0 := n6_; have HR721_0 := n7_; have HR728_0 := n8_; have HB := n9_; clear n0_ n1_ n2_ n3_ n4_ n5_ n6_ n7_ n8_ n9_; (try clear hb); (try clear hb2); (try clear hk); (try clear hi)))
                                   go_roundg k3
                                   case measure => have := HJ7.out; have := HJ20.out; have := HK3.out; omega
                                   case rel => exact ⟨(wrap64 (x85_3 + 1)), (taad), H', ⟨by have := HJ7.out; have := HJ20.out; have := HK3.out; omega⟩, ⟨taeq⟩, ⟨taer⟩, ⟨taes⟩, ⟨taet⟩, ⟨taaa⟩⟩
                               · rw [if_neg c44] at H
                                 exact absurd H (taac)
                             · rw [if_neg c43] at H
                               exact absurd H (taac)
                           · rw [if_neg c41] at H
                             have c41b0 : decide (0 < x85_3) = false := zbk c41
                             clear c41; have H' := zad H
                             clear H; have p721 : 0 ≤ (x85_3 : Int) := zas (taab)
                             have q721 : x85_3 < (t712.length : Int) := zas (taab)
                             obtain ⟨ad721, A721_0, c721_0, e721, hx721_0, hl721_0, hi721_0⟩ := at_L1 (Kd.S_reads' HO_83.out).2.2 x85_3 p721 q721
                             cases e721
                             obtain ⟨ce721, hce721, hMe721, hcc721⟩ := Kd.S_get HO_83.out [] x85_3 p721 (tafa)
                             obtain ⟨ve721_0, rfl, ge721_0⟩ := hMe721
                             have hv721_0 := hcc721 0 _ rfl
                             rw [Nat.add_zero, show ((Kd.slice 3 (Kd.int .i64))).sz = 1 from rfl, Nat.mul_one] at hv721_0
                             replace hv721_0 := zbf (hv721_0.symm.trans hx721_0)
                             rw [hv721_0] at ge721_0
                             have HL721_0 := zad (show Kd.R (Kd.int .i64) 3 _ _ _ _ (rd_L1 t712 x85_3) from ge721_0)
                             clear hv721_0 ge721_0 hcc721 hce721; have HR721_0 := zad hi721_0; have HC721_0 := zad hl721_0; clear hi721_0 hl721_0; replace p721 := eq_true p721
                             replace q721 := eq_true q721
                             go_wp2_with (first | ((with_reducible refine zbi (f := 21) rfl ?_); refine zbo (some 92) rfl rfl Try.func21 (by kernel_rfl) rfl #[.slice A721_0 (rd_L1 t712 x85_3).length c721_0] rfl (taae) ?_; (with_reducible refine (impl_RankingOf.calls k3 _ _ (rd_L1 t712 x85_3) t722 true _ ?side1 ?side2 A34.out).mono ?_); (case side1 => repeat (first | exact (taaj) | (with_reducible refine zal ?_ _) | (with_reducible refine zam ?_ _) | (with_reducible refine zan ?_))); (case side2 => exact HC721_0.out); rintro e w53 ⟨v724, rfl, ho0, hb⟩; refine ⟨_, rfl, ?_⟩; have n0_ := zad (zbx (taah) (zbz ho0) hb); have n1_ := zad (Kd.S_elder' (taam) (zbz ho0) hb); have n2_ := zad (Kd.S_elder' (taaw) (zbz ho0) hb); have n3_ := zad (Kd.S_elder' (tabb) (zbz ho0) hb); have n4_ := zad (zbx (taau) (zbz ho0) hb); have n5_ := zad (zbu (zby (zby ho0 (zca (taah))) (zca (taau))) (zbl (taaa))); (first | (with_reducible have n6_ := zad (Kd.C_below (zam HR721_0.out _) hb)) | (with_reducible have n6_ := zad (Kd.C_below HR721_0.out hb)) | (have n6_ := zad (Kd.C_below (taaj) hb))); have n7_ := zad (zbh (taaa) hb); clear HO_5 HO_6 HO_12 HO_83 HL721_0 HR721_0 HB; have HO_5 := n0_; have HO_6 := n1_; have HO_12 := n2_; have HO_83 := n3_; have HL721_0 := n4_; have HO725 := n5_; have HR721_0 := n6_; have HB := n7_; clear n0_ n1_ n2_ n3_ n4_ n5_ n6_ n7_; (try clear hb); (try clear hb2); (try clear hk); (try clear hi); (try clear ho0); obtain ⟨Ao54, co54, eo54⟩ := zbv HO725.out; subst eo54) | (go_at_call 20; (with_reducible refine (laws_pSame.calls k3 _ _ t722 _ _ (rd_L1 t712 x85_3) true _ ?side1 ?side2 ?side3 ?side4 A36.out).mono ?_); (case side1 => repeat (first | exact (zbg HO725.out).2.2 | (with_reducible refine zal ?_ _) | (with_reducible refine zam ?_ _) | (with_reducible refine zan ?_))); (case side2 => exact (zbg HO725.out).2.1); (case side3 => repeat (first | exact (taaj) | (with_reducible refine zal ?_ _) | (with_reducible refine zam ?_ _) | (with_reducible refine zan ?_))); (case side4 => exact HC721_0.out); rintro e w' ⟨rfl, ⟨nd, rfl⟩⟩) | (go_at_call 24; (with_reducible refine (laws_pSum.calls k3 _ _ (rd_L1 t712 x85_3) t727 _ ?side1 ?side2 A38.out).mono ?_); (case side1 => repeat (first | exact (taaj) | (with_reducible refine zal ?_ _) | (with_reducible refine zam ?_ _) | (with_reducible refine zan ?_))); (case side2 => exact HC721_0.out); rintro e w' ⟨rfl, ⟨nd, rfl⟩⟩))
                             go_roundg k3
                             case measure => have := HJ7.out; have := HJ20.out; have := HK3.out; omega
                             case rel => exact ⟨(wrap64 (x85_3 + 1)), (taad), H', ⟨by have := HJ7.out; have := HJ20.out; have := HK3.out; omega⟩, ⟨taeq⟩, ⟨taer⟩, ⟨taes⟩, ⟨taet⟩, ⟨taaa⟩⟩
                         · rw [if_neg c40] at H
                           have c40b0 : (((rd_L1 t712 x85_3).length : Int) == t710) = false := zbp.mpr c40
                           have c40b1 : (((rd_L1 t712 x85_3).length : Int) != t710) = true := bne_iff_ne.mpr c40
                           obtain rfl := zbf H
                           have p721 : 0 ≤ (x85_3 : Int) := zas (taab)
                           have q721 : x85_3 < (t712.length : Int) := zas (taab)
                           obtain ⟨ad721, A721_0, c721_0, e721, hx721_0, hl721_0, hi721_0⟩ := at_L1 (Kd.S_reads' HO_83.out).2.2 x85_3 p721 q721
                           cases e721
                           obtain ⟨ce721, hce721, hMe721, hcc721⟩ := Kd.S_get HO_83.out [] x85_3 p721 (tafa)
                           obtain ⟨ve721_0, rfl, ge721_0⟩ := hMe721
                           have hv721_0 := hcc721 0 _ rfl
                           rw [Nat.add_zero, show ((Kd.slice 3 (Kd.int .i64))).sz = 1 from rfl, Nat.mul_one] at hv721_0
                           replace hv721_0 := zbf (hv721_0.symm.trans hx721_0)
                           rw [hv721_0] at ge721_0
                           have HL721_0 := zad (show Kd.R (Kd.int .i64) 3 _ _ _ _ (rd_L1 t712 x85_3) from ge721_0)
                           clear hv721_0 ge721_0 hcc721 hce721; have HR721_0 := zad hi721_0; have HC721_0 := zad hl721_0; clear hi721_0 hl721_0; replace p721 := eq_true p721
                           replace q721 := eq_true q721
                           go_wp2_with (first | ((with_reducible refine zbi (f := 21) rfl ?_); refine zbo (some 92) rfl rfl Try.func21 (by kernel_rfl) rfl #[.slice A721_0 (rd_L1 t712 x85_3).length c721_0] rfl (taae) ?_; (with_reducible refine (impl_RankingOf.calls k3 _ _ (rd_L1 t712 x85_3) t722 true _ ?side1 ?side2 A34.out).mono ?_); (case side1 => repeat (first | exact (taaj) | (with_reducible refine zal ?_ _) | (with_reducible refine zam ?_ _) | (with_reducible refine zan ?_))); (case side2 => exact HC721_0.out); rintro e w55 ⟨v724, rfl, ho0, hb⟩; refine ⟨_, rfl, ?_⟩; have n0_ := zad (zbx (taah) (zbz ho0) hb); have n1_ := zad (Kd.S_elder' (taam) (zbz ho0) hb); have n2_ := zad (Kd.S_elder' (taaw) (zbz ho0) hb); have n3_ := zad (Kd.S_elder' (tabb) (zbz ho0) hb); have n4_ := zad (zbx (taau) (zbz ho0) hb); have n5_ := zad (zbu (zby (zby ho0 (zca (taah))) (zca (taau))) (zbl (taaa))); (first | (with_reducible have n6_ := zad (Kd.C_below (zam HR721_0.out _) hb)) | (with_reducible have n6_ := zad (Kd.C_below HR721_0.out hb)) | (have n6_ := zad (Kd.C_below (taaj) hb))); have n7_ := zad (zbh (taaa) hb); clear HO_5 HO_6 HO_12 HO_83 HL721_0 HR721_0 HB; have HO_5 := n0_; have HO_6 := n1_; have HO_12 := n2_; have HO_83 := n3_; have HL721_0 := n4_; have HO725 := n5_; have HR721_0 := n6_; have HB := n7_; clear n0_ n1_ n2_ n3_ n4_ n5_ n6_ n7_; (try clear hb); (try clear hb2); (try clear hk); (try clear hi); (try clear ho0); obtain ⟨Ao56, co56, eo56⟩ := zbv HO725.out; subst eo56) | (go_at_call 20; (with_reducible refine (laws_pSame.calls k3 _ _ t722 _ _ (rd_L1 t712 x85_3) true _ ?side1 ?side2 ?side3 ?side4 A36.out).mono ?_); (case side1 => repeat (first | exact (zbg HO725.out).2.2 | (with_reducible refine zal ?_ _) | (with_reducible refine zam ?_ _) | (with_reducible refine zan ?_))); (case side2 => exact (zbg HO725.out).2.1); (case side3 => repeat (first | exact (taaj) | (with_reducible refine zal ?_ _) | (with_reducible refine zam ?_ _) | (with_reducible refine zan ?_))); (case side4 => exact HC721_0.out); rintro e w' ⟨rfl, ⟨nd, rfl⟩⟩) | (go_at_call 24; (with_reducible refine (laws_pSum.calls k3 _ _ (rd_L1 t712 x85_3) t727 _ ?side1 ?side2 A38.out).mono ?_); (case side1 => repeat (first | exact (taaj) | (with_reducible refine zal ?_ _) | (with_reducible refine zam ?_ _) | (with_reducible refine zan ?_))); (case side2 => exact HC721_0.out); rintro e w' ⟨rfl, ⟨nd, rfl⟩⟩))
                           go_ret
                           exact ⟨taaf, taaa⟩
                       · rw [if_neg c39] at H
                         have c39b0 : (t727 == t711) = false := zbp.mpr c39
                         have c39b1 : (t727 != t711) = true := bne_iff_ne.mpr c39
                         obtain rfl := zbf H
                         have p721 : 0 ≤ (x85_3 : Int) := zas (taab)
                         have q721 : x85_3 < (t712.length : Int) := zas (taab)
                         obtain ⟨ad721, A721_0, c721_0, e721, hx721_0, hl721_0, hi721_0⟩ := at_L1 (Kd.S_reads' HO_83.out).2.2 x85_3 p721 q721
                         cases e721
                         obtain ⟨ce721, hce721, hMe721, hcc721⟩ := Kd.S_get HO_83.out [] x85_3 p721 (tafa)
                         obtain ⟨ve721_0, rfl, ge721_0⟩ := hMe721
                         have hv721_0 := hcc721 0 _ rfl
                         rw [Nat.add_zero, show ((Kd.slice 3 (Kd.int .i64))).sz = 1 from rfl, Nat.mul_one] at hv721_0
                         replace hv721_0 := zbf (hv721_0.symm.trans hx721_0)
                         rw [hv721_0] at ge721_0
                         have HL721_0 := zad (show Kd.R (Kd.int .i64) 3 _ _ _ _ (rd_L1 t712 x85_3) from ge721_0)
                         clear hv721_0 ge721_0 hcc721 hce721; have HR721_0 := zad hi721_0; have HC721_0 := zad hl721_0; clear hi721_0 hl721_0; replace p721 := eq_true p721
                         replace q721 := eq_true q721
                         go_wp2_with (first | ((with_reducible refine zbi (f := 21) rfl ?_); refine zbo (some 92) rfl rfl Try.func21 (by kernel_rfl) rfl #[.slice A721_0 (rd_L1 t712 x85_3).length c721_0] rfl (taae) ?_; (with_reducible refine (impl_RankingOf.calls k3 _ _ (rd_L1 t712 x85_3) t722 true _ ?side1 ?side2 A34.out).mono ?_); (case side1 => repeat (first | exact (taaj) | (with_reducible refine zal ?_ _) | (with_reducible refine zam ?_ _) | (with_reducible refine zan ?_))); (case side2 => exact HC721_0.out); rintro e w57 ⟨v724, rfl, ho0, hb⟩; refine ⟨_, rfl, ?_⟩; have n0_ := zad (zbx (taah) (zbz ho0) hb); have n1_ := zad (Kd.S_elder' (taam) (zbz ho0) hb); have n2_ := zad (Kd.S_elder' (taaw) (zbz ho0) hb); have n3_ := zad (Kd.S_elder' (tabb) (zbz ho0) hb); have n4_ := zad (zbx (taau) (zbz ho0) hb); have n5_ := zad (zbu (zby (zby ho0 (zca (taah))) (zca (taau))) (zbl (taaa))); (first | (with_reducible have n6_ := zad (Kd.C_below (zam HR721_0.out _) hb)) | (with_reducible have n6_ := zad (Kd.C_below HR721_0.out hb)) | (have n6_ := zad (Kd.C_below (taaj) hb))); have n7_ := zad (zbh (taaa) hb); clear HO_5 HO_6 HO_12 HO_83 HL721_0 HR721_0 HB; have HO_5 := n0_; have HO_6 := n1_; have HO_12 := n2_; have HO_83 := n3_; have HL721_0 := n4_; have HO725 := n5_; have HR721_0 := n6_; have HB := n7_; clear n0_ n1_ n2_ n3_ n4_ n5_ n6_ n7_; (try clear hb); (try clear hb2); (try clear hk); (try clear hi); (try clear ho0); obtain ⟨Ao58, co58, eo58⟩ := zbv HO725.out; subst eo58) | (go_at_call 20; (with_reducible refine (laws_pSame.calls k3 _ _ t722 _ _ (rd_L1 t712 x85_3) true _ ?side1 ?side2 ?side3 ?side4 A36.out).mono ?_); (case side1 => repeat (first | exact (zbg HO725.out).2.2 | (with_reducible refine zal ?_ _) | (with_reducible refine zam ?_ _) | (with_reducible refine zan ?_))); (case side2 => exact (zbg HO725.out).2.1); (case side3 => repeat (first | exact (taaj) | (with_reducible refine zal ?_ _) | (with_reducible refine zam ?_ _) | (with_reducible refine zan ?_))); (case side4 => exact HC721_0.out); rintro e w' ⟨rfl, ⟨nd, rfl⟩⟩) | (go_at_call 24; (with_reducible refine (laws_pSum.calls k3 _ _ (rd_L1 t712 x85_3) t727 _ ?side1 ?side2 A38.out).mono ?_); (case side1 => repeat (first | exact (taaj) | (with_reducible refine zal ?_ _) | (with_reducible refine zam ?_ _) | (with_reducible refine zan ?_))); (case side2 => exact HC721_0.out); rintro e w' ⟨rfl, ⟨nd, rfl⟩⟩))
                         go_ret
                         exact ⟨taaf, taaa⟩
                     · replace c37 := zbj.mpr c37
                       subst c37; have H1 : (some false) = some r := by rw [if_neg (show ¬ (false = true) by decide)] at H; exact H
                       clear H; have H := H1; clear H1; obtain rfl := zbf H
                       have p721 : 0 ≤ (x85_3 : Int) := zas (taab)
                       have q721 : x85_3 < (t712.length : Int) := zas (taab)
                       obtain ⟨ad721, A721_0, c721_0, e721, hx721_0, hl721_0, hi721_0⟩ := at_L1 (Kd.S_reads' HO_83.out).2.2 x85_3 p721 q721
                       cases e721
                       obtain ⟨ce721, hce721, hMe721, hcc721⟩ := Kd.S_get HO_83.out [] x85_3 p721 (tafa)
                       obtain ⟨ve721_0, rfl, ge721_0⟩ := hMe721
                       have hv721_0 := hcc721 0 _ rfl
                       rw [Nat.add_zero, show ((Kd.slice 3 (Kd.int .i64))).sz = 1 from rfl, Nat.mul_one] at hv721_0
                       replace hv721_0 := zbf (hv721_0.symm.trans hx721_0)
                       rw [hv721_0] at ge721_0
                       have HL721_0 := zad (show Kd.R (Kd.int .i64) 3 _ _ _ _ (rd_L1 t712 x85_3) from ge721_0)
                       clear hv721_0 ge721_0 hcc721 hce721; have HR721_0 := zad hi721_0; have HC721_0 := zad hl721_0; clear hi721_0 hl721_0; replace p721 := eq_true p721
                       replace q721 := eq_true q721
                       go_wp2_with (first | ((with_reducible refine zbi (f := 21) rfl ?_); refine zbo (some 92) rfl rfl Try.func21 (by kernel_rfl) rfl #[.slice A721_0 (rd_L1 t712 x85_3).length c721_0] rfl (taae) ?_; (with_reducible refine (impl_RankingOf.calls k3 _ _ (rd_L1 t712 x85_3) t722 true _ ?side1 ?side2 A34.out).mono ?_); (case side1 => repeat (first | exact (taaj) | (with_reducible refine zal ?_ _) | (with_reducible refine zam ?_ _) | (with_reducible refine zan ?_))); (case side2 => exact HC721_0.out); rintro e w59 ⟨v724, rfl, ho0, hb⟩; refine ⟨_, rfl, ?_⟩; have n0_ := zad (zbx (taah) (zbz ho0) hb); have n1_ := zad (Kd.S_elder' (taam) (zbz ho0) hb); have n2_ := zad (Kd.S_elder' (taaw) (zbz ho0) hb); have n3_ := zad (Kd.S_elder' (tabb) (zbz ho0) hb); have n4_ := zad (zbx (taau) (zbz ho0) hb); have n5_ := zad (zbu (zby (zby ho0 (zca (taah))) (zca (taau))) (zbl (taaa))); (first | (with_reducible have n6_ := zad (Kd.C_below (zam HR721_0.out _) hb)) | (with_reducible have n6_ := zad (Kd.C_below HR721_0.out hb)) | (have n6_ := zad (Kd.C_below (taaj) hb))); have n7_ := zad (zbh (taaa) hb); clear HO_5 HO_6 HO_12 HO_83 HL721_0 HR721_0 HB; have HO_5 := n0_; have HO_6 := n1_; have HO_12 := n2_; have HO_83 := n3_; have HL721_0 := n4_; have HO725 := n5_; have HR721_0 := n6_; have HB := n7_; clear n0_ n1_ n2_ n3_ n4_ n5_ n6_ n7_; (try clear hb); (try clear hb2); (try clear hk); (try clear hi); (try clear ho0); obtain ⟨Ao60, co60, eo60⟩ := zbv HO725.out; subst eo60) | (go_at_call 20; (with_reducible refine (laws_pSame.calls k3 _ _ t722 _ _ (rd_L1 t712 x85_3) false _ ?side1 ?side2 ?side3 ?side4 A36.out).mono ?_); (case side1 => repeat (first | exact (zbg HO725.out).2.2 | (with_reducible refine zal ?_ _) | (with_reducible refine zam ?_ _) | (with_reducible refine zan ?_))); (case side2 => exact (zbg HO725.out).2.1); (case side3 => repeat (first | exact (taaj) | (with_reducible refine zal ?_ _) | (with_reducible refine zam ?_ _) | (with_reducible refine zan ?_))); (case side4 => exact HC721_0.out); rintro e w' ⟨rfl, ⟨nd, rfl⟩⟩))
                       go_ret
                       exact ⟨taaf, taaa⟩
                   · replace c35 := zbj.mpr c35
                     subst c35; have H1 : (some false) = some r := by rw [if_neg (show ¬ (false = true) by decide)] at H; exact H
                     clear H; have H := H1; clear H1; obtain rfl := zbf H
                     have p721 : 0 ≤ (x85_3 : Int) := zas (taab)
                     have q721 : x85_3 < (t712.length : Int) := zas (taab)
                     obtain ⟨ad721, A721_0, c721_0, e721, hx721_0, hl721_0, hi721_0⟩ := at_L1 (Kd.S_reads' HO_83.out).2.2 x85_3 p721 q721
                     cases e721
                     obtain ⟨ce721, hce721, hMe721, hcc721⟩ := Kd.S_get HO_83.out [] x85_3 p721 (tafa)
                     obtain ⟨ve721_0, rfl, ge721_0⟩ := hMe721
                     have hv721_0 := hcc721 0 _ rfl
                     rw [Nat.add_zero, show ((Kd.slice 3 (Kd.int .i64))).sz = 1 from rfl, Nat.mul_one] at hv721_0
                     replace hv721_0 := zbf (hv721_0.symm.trans hx721_0)
                     rw [hv721_0] at ge721_0
                     have HL721_0 := zad (show Kd.R (Kd.int .i64) 3 _ _ _ _ (rd_L1 t712 x85_3) from ge721_0)
                     clear hv721_0 ge721_0 hcc721 hce721; have HR721_0 := zad hi721_0; have HC721_0 := zad hl721_0; clear hi721_0 hl721_0; replace p721 := eq_true p721
                     replace q721 := eq_true q721
                     go_wp2_with (first | ((with_reducible refine zbi (f := 21) rfl ?_); refine zbo (some 92) rfl rfl Try.func21 (by kernel_rfl) rfl #[.slice A721_0 (rd_L1 t712 x85_3).length c721_0] rfl (taae) ?_; (with_reducible refine (impl_RankingOf.calls k3 _ _ (rd_L1 t712 x85_3) t722 false _ ?side1 ?side2 A34.out).mono ?_); (case side1 => repeat (first | exact (taaj) | (with_reducible refine zal ?_ _) | (with_reducible refine zam ?_ _) | (with_reducible refine zan ?_))); (case side2 => exact HC721_0.out); rintro e w61 ⟨v724, rfl, ho0, hb⟩; refine ⟨_, rfl, ?_⟩; have n0_ := zad (zbx (taah) (zbz ho0) hb); have n1_ := zad (Kd.S_elder' (taam) (zbz ho0) hb); have n2_ := zad (Kd.S_elder' (taaw) (zbz ho0) hb); have n3_ := zad (Kd.S_elder' (tabb) (zbz ho0) hb); have n4_ := zad (zbx (taau) (zbz ho0) hb); have n5_ := zad (zbu (zby (zby ho0 (zca (taah))) (zca (taau))) (zbl (taaa))); (first | (with_reducible have n6_ := zad (Kd.C_below (zam HR721_0.out _) hb)) | (with_reducible have n6_ := zad (Kd.C_below HR721_0.out hb)) | (have n6_ := zad (Kd.C_below (taaj) hb))); have n7_ := zad (zbh (taaa) hb); clear HO_5 HO_6 HO_12 HO_83 HL721_0 HR721_0 HB; have HO_5 := n0_; have HO_6 := n1_; have HO_12 := n2_; have HO_83 := n3_; have HL721_0 := n4_; have HO725 := n5_; have HR721_0 := n6_; have HB := n7_; clear n0_ n1_ n2_ n3_ n4_ n5_ n6_ n7_; (try clear hb); (try clear hb2); (try clear hk); (try clear hi); (try clear ho0)))
                     go_ret
                     exact ⟨taaf, taaa⟩
                 · rw [if_neg c33] at H
                   exact absurd H (taac)
               · rw [if_neg c32] at H
                 exact absurd H (taac)
             · rw [if_neg c31] at H
               have c31b0 : decide (x85_3 < (t712.length : Int)) = false := zbk c31
               clear c31; by_cases c62 : t708 = true
               · subst c62
                 have H1 : ((impl_BelowOf.f k3 t698).bind fun bt730 => (if bt730.2 = true then (laws_FnCoversOfLists.j3 k3 t698 t701 bt730.1 bt730.2 (decide ((bt730.1.length : Int) > 120))) else (laws_FnCoversOfLists.j3 k3 t698 t701 bt730.1 bt730.2 true))) = some r := by rw [if_pos rfl] at H; exact H
                 clear H; have H := H1; clear H1; replace H := zay.mp H; obtain ⟨⟨t730, t731⟩, A630, H⟩ := H
                 replace H : (if t731 = true then (laws_FnCoversOfLists.j3 k3 t698 t701 t730 t731 (decide ((t730.length : Int) > 120))) else (laws_FnCoversOfLists.j3 k3 t698 t701 t730 t731 true)) = some r := H
                 have A63 := zad A630; clear A630; have HC64 := zad H; clear H; go_upto_region 23 with (first | ((with_reducible refine zbi (f := 23) rfl ?_); refine zbo (some 133) rfl rfl Try.func23 (by kernel_rfl) rfl #[.slice Ao10 t698.length co10] rfl (taae) ?_; (with_reducible refine (impl_BelowOf.calls k3 _ _ t698 t730 t731 _ ?side1 ?side2 A63.out).mono ?_); (case side1 => exact tafs); (case side2 => exact (zbg HO_5.out).2.1); rintro e w65 ⟨v732, rfl, ho0, hb⟩; refine ⟨_, rfl, ?_⟩; have n0_ := zad (zbt (taah) hb); have n1_ := zad (Kd.S_elder' (taam) (Kd.S_base ho0) hb); have n2_ := zad (Kd.S_elder' (taaw) (Kd.S_base ho0) hb); have n3_ := zad (Kd.S_elder' (tabb) (Kd.S_base ho0) hb); have n4_ := zad (Kd.S_lower (Kd.S_new' (Kd.S_new' (Kd.S_new' (Kd.S_new' ho0 (zca (taah))) (Kd.S_lt (taam))) (Kd.S_lt (taaw))) (Kd.S_lt (tabb))) (zbl (taaa))); have n5_ := zad (zbh (taaa) hb); clear HO_5 HO_6 HO_12 HO_83 HB; have HO_5 := n0_; have HO_6 := n1_; have HO_12 := n2_; have HO_83 := n3_; have HO733 := n4_; have HB := n5_; clear n0_ n1_ n2_ n3_ n4_ n5_; (try clear hb); (try clear hb2); (try clear hk); (try clear hi); (try clear ho0)))
                 (try simp only [Act.put, zaa, zab, zac])
                 go_cut [142] (fun v142 wc => ∃ (kq : Nat) (x142_63 : Bool), v142 = .bool x142_63 ∧ Aside0 (laws_FnCoversOfLists.j3 kq t698 t701 t730 t731 x142_63 = some r) ∧ Aside0 (kq ≤ k3) ∧ Aside0 (Kd.R (Kd.int .i64) 3 wc w.heap.size (fun _ => True) (.slice Ao10 t698.length co10) t698) ∧ Aside0 (Kd.S (Kd.slice 3 (Kd.int .i64)) 22 wc w.heap.size (fun k_ => some k_ ≠ ((.slice Ao10 t698.length co10) : Value).ownBlock ∧ some k_ ≠ (v732 : Value).ownBlock) v703 t701) ∧ Aside0 (Kd.S (Kd.slice 3 (Kd.int .i64)) 22 wc w.heap.size (fun k_ => some k_ ≠ ((.slice Ao10 t698.length co10) : Value).ownBlock ∧ some k_ ≠ (v703 : Value).ownBlock) v732 t730) ∧ Aside0 (Below w.heap.size w wc))
                 case first => as_aux_lemma =>
                  have H := HC64.out
                  clear HC64; by_cases c66 : t731 = true
                  · subst c66
                    have H1 : (laws_FnCoversOfLists.j3 k3 t698 t701 t730 true (decide ((t730.length : Int) > 120))) = some r := by rw [if_pos rfl] at H; exact H
                    clear H; have H := H1; clear H1; have H' := zad H
                    clear H; obtain ⟨Ao67, co67, eo67⟩ := Kd.S_slice HO733.out
                    subst eo67; go_wp2
                    go_meet
                    case rel => exact ⟨_, (decide ((t730.length : Int) > 120)), (taad), H', ⟨taeu⟩, ⟨taah⟩, ⟨taev⟩, ⟨taew⟩, ⟨taaa⟩⟩
                  · replace c66 := zbj.mpr c66
                    subst c66; have H1 : (laws_FnCoversOfLists.j3 k3 t698 t701 t730 false true) = some r := by rw [if_neg (show ¬ (false = true) by decide)] at H; exact H
                    clear H; have H := H1; clear H1; have H' := zad H
                    clear H; go_wp2
                    go_meet
                    case rel => exact ⟨_, (true), (taad), H', ⟨taeu⟩, ⟨taah⟩, ⟨taev⟩, ⟨taew⟩, ⟨taaa⟩⟩
                 case rest => as_aux_lemma =>
                  clear HC64; try clear c1
                  try clear c2
                  try clear p2
                  try clear c3
                  try clear c4
                  try clear c5
                  try clear c6
                  try clear p6
                  try clear c7
                  try clear p7
                  try clear q7
                  try clear hx7
                  try clear c8
                  try clear c13
                  try clear c13b0
                  try clear c13b1
                  try clear c13b2
                  try clear c14
                  try clear c17
                  try clear c21
                  try clear c23
                  try clear c25
                  try clear c25b0
                  try clear c25b1
                  try clear c25b2
                  try clear c27
                  try clear c28
                  try clear c29
                  try clear c31
                  try clear c31b0
                  try clear c32
                  try clear c32b0
                  try clear c33
                  try clear c33b0
                  try clear c35
                  try clear c37
                  try clear c39
                  try clear c39b0
                  try clear c39b1
                  try clear c40
                  try clear c40b0
                  try clear c40b1
                  try clear c41
                  try clear c41b0
                  try clear c43
                  try clear c43b0
                  try clear c44
                  try clear c44b0
                  try clear c46
                  try clear c62
                  try clear p64
                  try clear c66
                  try clear hx721_0
                  try clear hx728_0
                  try clear p2
                  try clear p721
                  try clear p728
                  try clear q721
                  try clear q728
                  obtain ⟨kq, x142_63, rfl, HA, HJ63, HO_5, HO_6, HO_20, HB⟩ := hcut
                  cases kq with
                  | zero => exact absurd HA.out (by simp [laws_FnCoversOfLists.j3])
                  | succ kj63 =>
                   have H := HA.out
                   clear HA; simp only [laws_FnCoversOfLists.j3] at H
                   by_cases c68 : x142_63 = true
                   · subst c68
                     have H1 : (some t731) = some r := by rw [if_pos rfl] at H; exact H
                     clear H; have H := H1; clear H1; obtain rfl := zbf H
                     go_wp2
                     go_ret
                     exact ⟨taaf, taaa⟩
                   · replace c68 := zbj.mpr c68
                     subst c68; have H1 : ((impl_RankingOf.f kj63 t698).bind fun bt734 => (if bt734.2 = true then (if (t730.length : Int) = 0 then (laws_FnCoversOfLists.j4 kj63 t698 t701 t730 bt734.1 true) else (if 0 < (t730.length : Int) then ((laws_pSame.f kj63 (rd_L1 t730 0) bt734.1).bind fun t739 => (laws_FnCoversOfLists.j4 kj63 t698 t701 t730 bt734.1 (!t739))) else (none))) else (laws_FnCoversOfLists.j4 kj63 t698 t701 t730 bt734.1 true))) = some r := by rw [if_neg (show ¬ (false = true) by decide)] at H; exact H
                     clear H; have H := H1; clear H1; replace H := zay.mp H; obtain ⟨⟨t734, t735⟩, A690, H⟩ := H
                     replace H : (if t735 = true then (if (t730.length : Int) = 0 then (laws_FnCoversOfLists.j4 kj63 t698 t701 t730 t734 true) else (if 0 < (t730.length : Int) then ((laws_pSame.f kj63 (rd_L1 t730 0) t734).bind fun t739 => (laws_FnCoversOfLists.j4 kj63 t698 t701 t730 t734 (!t739))) else (none))) else (laws_FnCoversOfLists.j4 kj63 t698 t701 t730 t734 true)) = some r := H
                     have A69 := zad A690; clear A690; have HC70 := zad H; clear H; go_upto_region 26 with (first | ((with_reducible refine zbi (f := 21) rfl ?_); refine zbo (some 146) rfl rfl Try.func21 (by kernel_rfl) rfl #[.slice Ao10 t698.length co10] rfl (taae) ?_; (with_reducible refine (impl_RankingOf.calls kj63 _ _ t698 t734 t735 _ ?side1 ?side2 A69.out).mono ?_); (case side1 => exact tafs); (case side2 => exact (zbg HO_5.out).2.1); rintro e w71 ⟨v736, rfl, ho0, hb⟩; refine ⟨_, rfl, ?_⟩; have n0_ := zad (zbx (taah) (zbz ho0) hb); have n1_ := zad (Kd.S_elder' (taam) (zbz ho0) hb); have n2_ := zad (Kd.S_elder' (taar) (zbz ho0) hb); have n3_ := zad (zbu (zby ho0 (zca (taah))) (zbl (taaa))); have n4_ := zad (zbh (taaa) hb); clear HO_5 HO_6 HO_20 HB; have HO_5 := n0_; have HO_6 := n1_; have HO_20 := n2_; have HO737 := n3_; have HB := n4_; clear n0_ n1_ n2_ n3_ n4_; (try clear hb); (try clear hb2); (try clear hk); (try clear hi); (try clear ho0)))
                     (try simp only [Act.put, zaa, zab, zac])
                     go_cut [163] (fun v163 wc => ∃ (kq : Nat) (x163_69 : Bool), v163 = .bool x163_69 ∧ Aside0 (laws_FnCoversOfLists.j4 kq t698 t701 t730 t734 x163_69 = some r) ∧ Aside0 (kq ≤ kj63) ∧ Aside0 (Kd.R (Kd.int .i64) 3 wc w.heap.size (fun k_ => some k_ ≠ (v736 : Value).ownBlock) (.slice Ao10 t698.length co10) t698) ∧ Aside0 (Kd.S (Kd.slice 3 (Kd.int .i64)) 22 wc w.heap.size (fun k_ => some k_ ≠ ((.slice Ao10 t698.length co10) : Value).ownBlock ∧ some k_ ≠ (v732 : Value).ownBlock ∧ some k_ ≠ (v736 : Value).ownBlock) v703 t701) ∧ Aside0 (Kd.S (Kd.slice 3 (Kd.int .i64)) 22 wc w.heap.size (fun k_ => some k_ ≠ ((.slice Ao10 t698.length co10) : Value).ownBlock ∧ some k_ ≠ (v703 : Value).ownBlock ∧ some k_ ≠ (v736 : Value).ownBlock) v732 t730) ∧ Aside0 (Kd.R (Kd.int .i64) 3 wc w.heap.size (fun k_ => some k_ ≠ ((.slice Ao10 t698.length co10) : Value).ownBlock) v736 t734) ∧ Aside0 (Below w.heap.size w wc))
                     case first => as_aux_lemma =>
                      have H := HC70.out
                      clear HC70; by_cases c72 : t735 = true
                      · subst c72
                        have H1 : (if (t730.length : Int) = 0 then (laws_FnCoversOfLists.j4 kj63 t698 t701 t730 t734 true) else (if 0 < (t730.length : Int) then ((laws_pSame.f kj63 (rd_L1 t730 0) t734).bind fun t739 => (laws_FnCoversOfLists.j4 kj63 t698 t701 t730 t734 (!t739))) else (none))) = some r := by rw [if_pos rfl] at H; exact H
                        clear H; have H := H1; clear H1; by_cases c73 : (t730.length : Int) = 0
                        · rw [if_pos c73] at H
                          have c73b0 : ((t730.length : Int) == 0) = true := beq_iff_eq.mpr c73
                          have c73b1 : ((t730.length : Int) != 0) = false := bne_eq_false_iff_eq.mpr c73
                          clear c73; (first | rw [c73b0] | (simp only [i64_w, i32_w]; rw [c73b0]) | skip)
                          have H' := zad H
                          clear H; obtain ⟨Ao74, co74, eo74⟩ := Kd.S_slice HO_20.out
                          subst eo74; go_wp2
                          go_meet
                          case rel => exact ⟨_, (true), (taad), H', ⟨tadg⟩, ⟨tadh⟩, ⟨tadi⟩, ⟨tadj⟩, ⟨tadk⟩, ⟨taaa⟩⟩
                        · rw [if_neg c73] at H
                          have c73b0 : ((t730.length : Int) == 0) = false := zbp.mpr c73
                          have c73b1 : ((t730.length : Int) != 0) = true := bne_iff_ne.mpr c73
                          have c73b2 : ¬ (t730 = []) := fun h_ => c73 (by rw [h_]; rfl)
                          (first | rw [c73b0] | (simp only [i64_w, i32_w]; rw [c73b0]) | skip)
                          by_cases c75 : 0 < (t730.length : Int)
                          · rw [if_pos c75] at H
                            have c75b0 : decide (0 < (t730.length : Int)) = true := zba c75
                            have c75b1 : decide (0 < t730.length) = true := zba (by omega)
                            clear c75; replace H := zay.mp H; obtain ⟨t739, A760, H⟩ := H
                            replace H : (laws_FnCoversOfLists.j4 kj63 t698 t701 t730 t734 (!t739)) = some r := H
                            have A76 := zad A760; clear A760; have H' := zad H
                            clear H; obtain ⟨Ao77, co77, eo77⟩ := Kd.S_slice HO_20.out
                            subst eo77; have p738 : 0 ≤ (0 : Int) := (by omega)
                            have q738 : 0 < (t730.length : Int) := zas (taab)
                            obtain ⟨ad738, A738_0, c738_0, e738, hx738_0, hl738_0, hi738_0⟩ := at_L1 (Kd.S_reads' HO_20.out).2.2 0 p738 q738
                            cases e738
                            obtain ⟨ce738, hce738, hMe738, hcc738⟩ := Kd.S_get HO_20.out [] 0 p738 (by first | exact q738 | exact zas (taab) | (have e_ := (Kd.S_reads' HO_20.out).1; omega))
                            obtain ⟨ve738_0, rfl, ge738_0⟩ := hMe738
                            have hv738_0 := hcc738 0 _ rfl
                            rw [Nat.add_zero, show ((Kd.slice 3 (Kd.int .i64))).sz = 1 from rfl, Nat.mul_one] at hv738_0
                            replace hv738_0 := zbf (hv738_0.symm.trans hx738_0)
                            rw [hv738_0] at ge738_0
                            have HL738_0 := zad (show Kd.R (Kd.int .i64) 3 _ _ _ _ (rd_L1 t730 0) from ge738_0)
                            clear hv738_0 ge738_0 hcc738 hce738; have qi738 : (0 < t730.length) = True := eq_true (by omega)
                            (try rw [show ((0 : Int)).toNat = 0 from rfl] at hx738_0)
                            (try rw [Addr.add_zero'] at hx738_0)
                            have HR738_0 := zad hi738_0; have HC738_0 := zad hl738_0; clear hi738_0 hl738_0; replace p738 := eq_true p738
                            replace q738 := eq_true q738
                            obtain ⟨Ao78, co78, eo78⟩ := zbv HO737.out
                            subst eo78; go_wp2_with (first | (go_at_call 20; (with_reducible refine (laws_pSame.calls kj63 _ _ (rd_L1 t730 0) _ _ t734 t739 _ ?side1 ?side2 ?side3 ?side4 A76.out).mono ?_); (case side1 => repeat (first | exact (by repeat (first | (with_reducible exact HR738_0.out) | (with_reducible refine zal ?_ _) | (with_reducible refine zam ?_ _) | (with_reducible refine zan ?_) | exact HR738_0.out)) | (with_reducible refine zal ?_ _) | (with_reducible refine zam ?_ _) | (with_reducible refine zan ?_))); (case side2 => exact HC738_0.out); (case side3 => repeat (first | exact (zbg HO737.out).2.2 | (with_reducible refine zal ?_ _) | (with_reducible refine zam ?_ _) | (with_reducible refine zan ?_))); (case side4 => exact (zbg HO737.out).2.1); rintro e w' ⟨rfl, ⟨nd, rfl⟩⟩))
                            go_meet
                            case rel => exact ⟨_, (!t739), (taad), H', ⟨tadg⟩, ⟨tadh⟩, ⟨tadi⟩, ⟨tadj⟩, ⟨tadk⟩, ⟨taaa⟩⟩
                          · rw [if_neg c75] at H
                            exact absurd H (taac)
                      · replace c72 := zbj.mpr c72
                        subst c72; have H1 : (laws_FnCoversOfLists.j4 kj63 t698 t701 t730 t734 true) = some r := by rw [if_neg (show ¬ (false = true) by decide)] at H; exact H
                        clear H; have H := H1; clear H1; have H' := zad H
                        clear H; go_wp2
                        go_meet
                        case rel => exact ⟨_, (true), (taad), H', ⟨tadg⟩, ⟨tadh⟩, ⟨tadi⟩, ⟨tadj⟩, ⟨tadk⟩, ⟨taaa⟩⟩
                     case rest => as_aux_lemma =>
                      clear HC70; try clear c1
                      try clear c2
                      try clear p2
                      try clear c3
                      try clear c4
                      try clear c5
                      try clear c6
                      try clear p6
                      try clear c7
                      try clear p7
                      try clear q7
                      try clear hx7
                      try clear qi7
                      try clear c8
                      try clear c13
                      try clear c13b0
                      try clear c13b1
                      try clear c13b2
                      try clear c14
                      try clear c17
                      try clear c21
                      try clear c23
                      try clear c25
                      try clear c25b0
                      try clear c25b1
                      try clear c25b2
                      try clear c27
                      try clear c28
                      try clear c29
                      try clear c31
                      try clear c31b0
                      try clear c32
                      try clear c32b0
                      try clear c33
                      try clear c33b0
                      try clear c35
                      try clear c37
                      try clear c39
                      try clear c39b0
                      try clear c39b1
                      try clear c40
                      try clear c40b0
                      try clear c40b1
                      try clear c41
                      try clear c41b0
                      try clear c43
                      try clear c43b0
                      try clear c44
                      try clear c44b0
                      try clear c46
                      try clear c62
                      try clear p64
                      try clear c66
                      try clear c68
                      try clear c72
                      try clear p72
                      try clear q72
                      try clear hx72
                      try clear c73
                      try clear c73b0
                      try clear c73b1
                      try clear c73b2
                      try clear p73
                      try clear q73
                      try clear hx73
                      try clear qi73
                      try clear c75
                      try clear c75b0
                      try clear c75b1
                      try clear hx721_0
                      try clear hx728_0
                      try clear hx738_0
                      try clear p2
                      try clear p6
                      try clear p64
                      try clear p7
                      try clear p721
                      try clear p728
                      try clear p738
                      try clear q7
                      try clear q721
                      try clear q728
                      try clear q738
                      obtain ⟨kq, x163_69, rfl, HA, HJ69, HO_5, HO_6, HO_20, HO_22, HB⟩ := hcut
                      cases kq with
                      | zero => exact absurd HA.out (by simp [laws_FnCoversOfLists.j4])
                      | succ kj69 =>
                       have H := HA.out
                       clear HA; simp only [laws_FnCoversOfLists.j4] at H
                       by_cases c79 : x163_69 = true
                       · subst c79
                         have H1 : (some false) = some r := by rw [if_pos rfl] at H; exact H
                         clear H; have H := H1; clear H1; obtain rfl := zbf H
                         go_wp2
                         go_ret
                         exact ⟨taaf, taaa⟩
                       · replace c79 := zbj.mpr c79
                         subst c79; have H1 : (if 1 ≤ (t730.length : Int) then ((some (t730.drop 1 : List (List Int))).bind fun y740 => (laws_FnCoversOfLists.l1 kj69 t698 t701 t730 t734 y740 (y740.length : Int) 0)) else (none)) = some r := by rw [if_neg (show ¬ (false = true) by decide)] at H; exact H
                         clear H; have H := H1; clear H1; by_cases c80 : 1 ≤ (t730.length : Int)
                         · rw [if_pos c80] at H
                           have c80b0 := eq_true c80; have c80b1 : decide (1 ≤ (t730.length : Int)) = true := zba c80
                           clear c80; obtain ⟨y740, hy740⟩ : ∃ y_ : List (List Int), y_ = (t730.drop 1) := ⟨_, rfl⟩
                           replace H : (laws_FnCoversOfLists.l1 kj69 t698 t701 t730 t734 y740 (y740.length : Int) 0) = some r := by first | (rw [hy740]; with_reducible exact H) | (have H2_ := (zbe _ _).symm.trans H; rw [hy740]; with_reducible exact H2_) | (have H2_ := (zbe _ _).symm.trans H; with_reducible exact H2_) | with_reducible exact H | (rw [hy740]; exact H) | exact H
                           have Ny740 := zad hy740; clear hy740; have H' := zad H
                           clear H; obtain ⟨Ao82, co82, eo82⟩ := Kd.S_slice HO_20.out
                           subst eo82; have q81 : (1 : Int) ≤ ((t730.length : Int) : Int) := zas (taab)
                           obtain ⟨i081, hi081, _, hsz81, _⟩ := info_parts info22
                           have hroom81 : t730.length ≤ co82 := (Kd.S_reads' HO_20.out).2.1
                           have hC81 : Kd.C (Kd.slice 3 (Kd.int .i64)) _ Ao82 t730.length t730 := (Kd.S_reads' HO_20.out).2.2
                           have hcut81 := cut_from (P := Try.prog) 23 22 .i64 Try.underlying23 hi081 1 hsz81 Ao82 t730.length co82 1 (by omega) q81
                           have hr81 := Kd.C_drop (m := (1 : Int).toNat) (c := co82) hC81 (by omega) hroom81
                           obtain ⟨A81, hA81⟩ : ∃ A1, A1 = (if co82 = (1 : Int).toNat then Ao82 else (Ao82 : Option Addr).map (·.add ((1 : Int).toNat * 1))) := ⟨_, rfl⟩
                           obtain ⟨c81, hc81⟩ : ∃ c1, c1 = co82 - (1 : Int).toNat := ⟨_, rfl⟩
                           have hy81 : y740.length = t730.length - (1 : Int).toNat := (by rw [Ny740.out, zaw] <;> omega)
                           rw [show (t730).drop (1 : Int).toNat = y740 from Ny740.out.symm] at hr81
                           replace hr81 : Kd.C (Kd.slice 3 (Kd.int .i64)) _ A81 y740.length y740 := (by rw [hA81]; exact hr81)
                           rw [← hy81, ← hA81, ← hc81] at hcut81
                           have HR743 := zad hr81; have HC743 := zad (show y740.length ≤ c81 from by rw [hy81, hc81]; exact Nat.sub_le_sub_right hroom81 _)
                           clear hr81 hC81 hroom81 hi081 hsz81 hc81; have KY81 := zad hy81; have KA81 := zad hA81; clear hy81 hA81; have KL81 := zad (show 1 ≤ t730.length from by omega)
                           replace q81 := eq_true q81
                           go_wp2
                           go_loopg [167] kj69 (fun kq v167 w' => ∃ (x167_6 : Int), v167 = .int .i64 x167_6 ∧ Aside0 (laws_FnCoversOfLists.l1 kq t698 t701 t730 t734 y740 (y740.length : Int) x167_6 = some r) ∧ Aside0 (kq ≤ kj69) ∧ Aside0 (Kd.R (Kd.int .i64) 3 w' w.heap.size (fun k_ => some k_ ≠ (v736 : Value).ownBlock) (.slice Ao10 t698.length co10) t698) ∧ Aside0 (Kd.S (Kd.slice 3 (Kd.int .i64)) 22 w' w.heap.size (fun k_ => some k_ ≠ ((.slice Ao10 t698.length co10) : Value).ownBlock ∧ some k_ ≠ ((.slice Ao82 t730.length co82) : Value).ownBlock ∧ some k_ ≠ (v736 : Value).ownBlock) v703 t701) ∧ Aside0 (Kd.S (Kd.slice 3 (Kd.int .i64)) 22 w' w.heap.size (fun k_ => some k_ ≠ ((.slice Ao10 t698.length co10) : Value).ownBlock ∧ some k_ ≠ (v703 : Value).ownBlock ∧ some k_ ≠ (v736 : Value).ownBlock) (.slice Ao82 t730.length co82) t730) ∧ Aside0 (Kd.R (Kd.int .i64) 3 w' w.heap.size (fun k_ => some k_ ≠ ((.slice Ao10 t698.length co10) : Value).ownBlock) v736 t734) ∧ Aside0 (Kd.C (Kd.slice 3 (Kd.int .i64)) w' A81 y740.length y740) ∧ Aside0 (Below w.heap.size w w'))
                           case atStart => exact ⟨(0), (taad), H', ⟨zcb _⟩, ⟨taah⟩, ⟨taam⟩, ⟨taar⟩, ⟨taas⟩, ⟨taaq⟩, ⟨taaa⟩⟩
                           case round =>
                            clear H'
                            try clear c1
                            try clear c2
                            try clear p2
                            try clear c3
                            try clear c4
                            try clear c5
                            try clear c6
                            try clear p6
                            try clear c7
                            try clear p7
                            try clear q7
                            try clear hx7
                            try clear qi7
                            try clear c8
                            try clear q8
                            try clear c13
                            try clear c13b0
                            try clear c13b1
                            try clear c13b2
                            try clear c14
                            try clear c17
                            try clear c21
                            try clear c23
                            try clear c25
                            try clear c25b0
                            try clear c25b1
                            try clear c25b2
                            try clear c27
                            try clear c28
                            try clear c29
                            try clear c31
                            try clear c31b0
                            try clear c32
                            try clear c32b0
                            try clear c33
                            try clear c33b0
                            try clear c35
                            try clear c37
                            try clear c39
                            try clear c39b0
                            try clear c39b1
                            try clear c40
                            try clear c40b0
                            try clear c40b1
                            try clear c41
                            try clear c41b0
                            try clear c43
                            try clear c43b0
                            try clear c44
                            try clear c44b0
                            try clear c46
                            try clear c62
                            try clear p64
                            try clear c66
                            try clear c68
                            try clear c72
                            try clear p72
                            try clear q72
                            try clear hx72
                            try clear c73
                            try clear c73b0
                            try clear c73b1
                            try clear c73b2
                            try clear p73
                            try clear q73
                            try clear hx73
                            try clear qi73
                            try clear c75
                            try clear c75b0
                            try clear c75b1
                            try clear c79
                            try clear c80
                            try clear c80b0
                            try clear c80b1
                            try clear c81
                            try clear q81
                            try clear hx721_0
                            try clear hx728_0
                            try clear hx738_0
                            try clear p2
                            try clear p6
                            try clear p64
                            try clear p7
                            try clear p72
                            try clear p721
                            try clear p728
                            try clear p73
                            try clear p738
                            try clear q7
                            try clear q72
                            try clear q721
                            try clear q728
                            try clear q73
                            try clear q738
                            try clear q81
                            obtain ⟨x167_6, rfl, HA, HK6, HO_5, HO_6, HO_20, HO_22, HR743, HB⟩ := hrel
                            cases gk with
                            | zero => exact absurd HA.out (by simp [laws_FnCoversOfLists.l1])
                            | succ k6 =>
                             have H := HA.out
                             clear HA; simp only [laws_FnCoversOfLists.l1] at H
                             by_cases c83 : x167_6 < (y740.length : Int)
                             · rw [if_pos c83] at H
                               have c83b0 : decide (x167_6 < (y740.length : Int)) = true := zba c83
                               clear c83; by_cases c84 : 0 ≤ x167_6
                               · rw [if_pos c84] at H
                                 have c84b0 : decide (0 ≤ x167_6) = true := zba c84
                                 clear c84; by_cases c85 : x167_6 < (y740.length : Int)
                                 · rw [if_pos c85] at H
                                   have c85b0 : decide (x167_6 < (y740.length : Int)) = true := zba c85
                                   clear c85; replace H := zay.mp H; obtain ⟨t745, A860, H⟩ := H
                                   replace H : (if t745 = true then (laws_FnCoversOfLists.l2 k6 t698 t701 t730 t734 (rd_L1 y740 x167_6) 0 y740 (y740.length : Int) x167_6 t701 (t701.length : Int) 0) else (some false)) = some r := H
                                   have A86 := zad A860; clear A860; by_cases c87 : t745 = true
                                   · subst c87
                                     have H1 : (laws_FnCoversOfLists.l2 k6 t698 t701 t730 t734 (rd_L1 y740 x167_6) 0 y740 (y740.length : Int) x167_6 t701 (t701.length : Int) 0) = some r := by rw [if_pos rfl] at H; exact H
                                     clear H; have H := H1; clear H1; have H' := zad H
                                     clear H; have p744 : 0 ≤ (x167_6 : Int) := zas (taab)
                                     have q744 : x167_6 < (y740.length : Int) := zas (taab)
                                     obtain ⟨ad744, A744_0, c744_0, e744, hx744_0, hl744_0, hi744_0⟩ := at_L1 HR743.out x167_6 p744 q744
                                     cases e744
                                     have HR744_0 := zad hi744_0; have HC744_0 := zad hl744_0; clear hi744_0 hl744_0; replace p744 := eq_true p744
                                     replace q744 := eq_true q744
                                     go_wp2_with (first | ((with_reducible refine zbi (f := 22) rfl ?_); refine zbo (some 173) rfl rfl Try.func22 (by kernel_rfl) rfl #[.slice A744_0 (rd_L1 y740 x167_6).length c744_0, .slice Ao10 t698.length co10] rfl (taae) ?_; (with_reducible refine (laws_pBelow.calls k6 _ _ (rd_L1 y740 x167_6) _ _ t698 true _ ?side1 ?side2 ?side3 ?side4 A86.out).mono ?_); (case side1 => exact taft); (case side2 => exact HC744_0.out); (case side3 => exact tafs); (case side4 => exact (zbg HO_5.out).2.1); rintro e w88 ⟨rfl, hb⟩; refine ⟨_, rfl, ?_⟩; (first | (with_reducible have n44_ := zad (Kd.C_below (zam HR744_0.out _) hb)) | (with_reducible have n44_ := zad (Kd.C_below HR744_0.out hb)) | (have n44_ := zad (Kd.C_below (tabc) hb))); have n0_ := zad (zbt (taah) hb); have n1_ := zad (Kd.S_below (taam) hb); have n2_ := zad (Kd.S_below (taar) hb); have n3_ := zad (zbt (taas) hb); (first | (with_reducible have n4_ := zad (Kd.C_below (zam HR743.out _) hb)) | (with_reducible have n4_ := zad (Kd.C_below HR743.out hb)) | (have n4_ := zad (Kd.C_below (taaq) hb))); have n5_ := zad (zbh (taaa) hb); clear HO_5 HO_6 HO_20 HO_22 HR743 HB; have HO_5 := n0_; have HO_6 := n1_; have HO_20 := n2_; have HO_22 := n3_; have HR743 := n4_; have HB := n5_; clear n0_ n1_ n2_ n3_ n4_ n5_ HR744_0; have HR744_0 := n44_; clear n44_; (try clear hb); (try clear hb2); (try clear hk); (try clear hi); obtain ⟨Ao89, co89, eo89⟩ := Kd.S_slice HO_6.out; subst eo89))
                                     go_loopg [26, 177] k6 (fun kq v26 v177 w' => ∃ (x26_7 : Int) (x177_7 : Int), v26 = .int .i64 x26_7 ∧ v177 = .int .i64 x177_7 ∧ Aside0 (laws_FnCoversOfLists.l2 kq t698 t701 t730 t734 (rd_L1 y740 x167_6) x26_7 y740 (y740.length : Int) x167_6 t701 (t701.length : Int) x177_7 = some r) ∧ Aside0 (kq ≤ k6) ∧ Aside0 (Kd.R (Kd.int .i64) 3 w' w.heap.size (fun k_ => some k_ ≠ (v736 : Value).ownBlock) (.slice Ao10 t698.length co10) t698) ∧ Aside0 (Kd.S (Kd.slice 3 (Kd.int .i64)) 22 w' w.heap.size (fun k_ => some k_ ≠ ((.slice Ao10 t698.length co10) : Value).ownBlock ∧ some k_ ≠ ((.slice Ao82 t730.length co82) : Value).ownBlock ∧ some k_ ≠ (v736 : Value).ownBlock) (.slice Ao89 t701.length co89) t701) ∧ Aside0 (Kd.S (Kd.slice 3 (Kd.int .i64)) 22 w' w.heap.size (fun k_ => some k_ ≠ ((.slice Ao10 t698.length co10) : Value).ownBlock ∧ some k_ ≠ ((.slice Ao89 t701.length co89) : Value).ownBlock ∧ some k_ ≠ (v736 : Value).ownBlock ∧ some k_ ≠ ((.slice Ao89 t701.length co89) : Value).ownBlock) (.slice Ao82 t730.length co82) t730) ∧ Aside0 (Kd.R (Kd.int .i64) 3 w' w.heap.size (fun k_ => some k_ ≠ ((.slice Ao10 t698.length co10) : Value).ownBlock) v736 t734) ∧ Aside0 (Kd.S (Kd.slice 3 (Kd.int .i64)) 22 w' w.heap.size (fun k_ => some k_ ≠ ((.slice Ao10 t698.length co10) : Value).ownBlock ∧ some k_ ≠ ((.slice Ao82 t730.length co82) : Value).ownBlock ∧ some k_ ≠ (v736 : Value).ownBlock) (.slice Ao89 t701.length co89) t701) ∧ Aside0 (Kd.C (Kd.slice 3 (Kd.int .i64)) w' (some ad744) y740.length y740) ∧ Aside0 (Kd.C (Kd.int .i64) w' A744_0 (rd_L1 y740 x167_6).length (rd_L1 y740 x167_6)) ∧ Aside0 (Below w.heap.size w w'))
                                     case atStart => exact ⟨(0), (0), (taad), (taad), H', ⟨zcb _⟩, ⟨taah⟩, ⟨taam⟩, ⟨by (with_reducible repeat (first | apply Kd.S_alloc | apply Kd.S_drewN | apply Kd.S_drew)); exact Kd.S_mono HO_20.out (fun _ hk => ⟨hk.1, ⟨hk.2.1, ⟨hk.2.2, hk.2.1⟩⟩⟩)⟩, ⟨taas⟩, ⟨taam⟩, ⟨taaq⟩, ⟨tabc⟩, ⟨taaa⟩⟩
                                     case round =>
                                      clear H'
                                      try clear c1
                                      try clear c2
                                      try clear p2
                                      try clear c3
                                      try clear c4
                                      try clear c5
                                      try clear c6
                                      try clear p6
                                      try clear c7
                                      try clear p7
                                      try clear q7
                                      try clear hx7
                                      try clear qi7
                                      try clear c8
                                      try clear q8
                                      try clear c13
                                      try clear c13b0
                                      try clear c13b1
                                      try clear c13b2
                                      try clear c14
                                      try clear c17
                                      try clear c21
                                      try clear c22
                                      try clear c23
                                      try clear c25
                                      try clear c25b0
                                      try clear c25b1
                                      try clear c25b2
                                      try clear c27
                                      try clear c28
                                      try clear c29
                                      try clear c31
                                      try clear c31b0
                                      try clear c32
                                      try clear c32b0
                                      try clear c33
                                      try clear c33b0
                                      try clear c35
                                      try clear c37
                                      try clear c39
                                      try clear c39b0
                                      try clear c39b1
                                      try clear c40
                                      try clear c40b0
                                      try clear c40b1
                                      try clear c41
                                      try clear c41b0
                                      try clear c43
                                      try clear c43b0
                                      try clear c44
                                      try clear c44b0
                                      try clear c46
                                      try clear c62
                                      try clear p64
                                      try clear c66
                                      try clear c68
                                      try clear c72
                                      try clear p72
                                      try clear q72
                                      try clear hx72
                                      try clear c73
                                      try clear c73b0
                                      try clear c73b1
                                      try clear c73b2
                                      try clear p73
                                      try clear q73
                                      try clear hx73
                                      try clear qi73
                                      try clear c74
                                      try clear p74
                                      try clear q74
                                      try clear hx74
                                      try clear c75
                                      try clear c75b0
                                      try clear c75b1
                                      try clear c79
                                      try clear c80
                                      try clear c80b0
                                      try clear c80b1
                                      try clear c81
                                      try clear q81
                                      try clear c83
                                      try clear c83b0
                                      try clear c84
                                      try clear c84b0
                                      try clear c85
                                      try clear c85b0
                                      try clear c87
                                      try clear hx721_0
                                      try clear hx728_0
                                      try clear hx738_0
                                      try clear hx744_0
                                      try clear p2
                                      try clear p6
                                      try clear p64
                                      try clear p7
                                      try clear p72
                                      try clear p721
                                      try clear p728
                                      try clear p73
                                      try clear p738
                                      try clear p744
                                      try clear q7
                                      try clear q72
                                      try clear q721
                                      try clear q728
                                      try clear q73
                                      try clear q738
                                      try clear q744
                                      try clear q8
                                      try clear q81
                                      obtain ⟨x26_7, x177_7, rfl, rfl, HA, HK7, HO_5, HO_6, HO_20, HO_22, HO_175, HR743, HR744_0, HB⟩ := hrel
                                      cases gk with
                                      | zero => exact absurd HA.out (by simp [laws_FnCoversOfLists.l2])
                                      | succ k7 =>
                                       have H := HA.out
                                       clear HA; simp only [laws_FnCoversOfLists.l2] at H
                                       by_cases c90 : x177_7 < (t701.length : Int)
                                       · rw [if_pos c90] at H
                                         have c90b0 : decide (x177_7 < (t701.length : Int)) = true := zba c90
                                         clear c90; by_cases c91 : 0 ≤ x177_7
                                         · rw [if_pos c91] at H
                                           have c91b0 : decide (0 ≤ x177_7) = true := zba c91
                                           clear c91; by_cases c92 : x177_7 < (t701.length : Int)
                                           · rw [if_pos c92] at H
                                             have c92b0 : decide (x177_7 < (t701.length : Int)) = true := zba c92
                                             clear c92; replace H := zay.mp H; obtain ⟨t747, A930, H⟩ := H
                                             replace H : (if t747 = true then (laws_FnCoversOfLists.l2 k7 t698 t701 t730 t734 (rd_L1 y740 x167_6) (wrap64 (x26_7 + 1)) y740 (y740.length : Int) x167_6 t701 (t701.length : Int) (wrap64 (x177_7 + 1))) else (laws_FnCoversOfLists.l2 k7 t698 t701 t730 t734 (rd_L1 y740 x167_6) x26_7 y740 (y740.length : Int) x167_6 t701 (t701.length : Int) (wrap64 (x177_7 + 1)))) = some r := H
                                             have A93 := zad A930; clear A930; by_cases c94 : t747 = true
                                             · subst c94
                                               have H1 : (laws_FnCoversOfLists.l2 k7 t698 t701 t730 t734 (rd_L1 y740 x167_6) (wrap64 (x26_7 + 1)) y740 (y740.length : Int) x167_6 t701 (t701.length : Int) (wrap64 (x177_7 + 1))) = some r := by rw [if_pos rfl] at H; exact H
                                               clear H; have H := H1; clear H1; have H' := zad H
                                               clear H; have p746 : 0 ≤ (x177_7 : Int) := zas (taab)
                                               have q746 : x177_7 < (t701.length : Int) := zas (taab)
                                               obtain ⟨ad746, A746_0, c746_0, e746, hx746_0, hl746_0, hi746_0⟩ := at_L1 (Kd.S_reads' HO_175.out).2.2 x177_7 p746 q746
                                               cases e746
                                               obtain ⟨ce746, hce746, hMe746, hcc746⟩ := Kd.S_get HO_175.out [] x177_7 p746 (tafj)
                                               obtain ⟨ve746_0, rfl, ge746_0⟩ := hMe746
                                               have hv746_0 := hcc746 0 _ rfl
                                               rw [Nat.add_zero, show ((Kd.slice 3 (Kd.int .i64))).sz = 1 from rfl, Nat.mul_one] at hv746_0
                                               replace hv746_0 := zbf (hv746_0.symm.trans hx746_0)
                                               rw [hv746_0] at ge746_0
                                               have HL746_0 := zad (show Kd.R (Kd.int .i64) 3 _ _ _ _ (rd_L1 t701 x177_7) from ge746_0)
                                               clear hv746_0 ge746_0 hcc746 hce746; have HR746_0 := zad hi746_0; have HC746_0 := zad hl746_0; clear hi746_0 hl746_0; replace p746 := eq_true p746
                                               replace q746 := eq_true q746
                                               go_wp2_with (first | ((with_reducible refine zbi (f := 22) rfl ?_); refine zbo (some 183) rfl rfl Try.func22 (by kernel_rfl) rfl #[.slice A744_0 (rd_L1 y740 x167_6).length c744_0, .slice A746_0 (rd_L1 t701 x177_7).length c746_0] rfl (taae) ?_; (with_reducible refine (laws_pBelow.calls k7 _ _ (rd_L1 y740 x167_6) _ _ (rd_L1 t701 x177_7) true _ ?side1 ?side2 ?side3 ?side4 A93.out).mono ?_); (case side1 => exact taft); (case side2 => exact HC744_0.out); (case side3 => exact tafz); (case side4 => exact HC746_0.out); rintro e w95 ⟨rfl, hb⟩; refine ⟨_, rfl, ?_⟩; (first | (with_reducible have n44_ := zad (Kd.C_below (zam HR744_0.out _) hb)) | (with_reducible have n44_ := zad (Kd.C_below HR744_0.out hb)) | (have n44_ := zad (Kd.C_below (tabc) hb))); have n0_ := zad (zbt (taah) hb); have n1_ := zad (Kd.S_below (taam) hb); have n2_ := zad (Kd.S_below (taar) hb); have n3_ := zad (zbt (taas) hb); have n4_ := zad (Kd.S_below (tacn) hb); have n5_ := zad (zbt (taex) hb); (first | (with_reducible have n6_ := zad (Kd.C_below (zam HR743.out _) hb)) | (with_reducible have n6_ := zad (Kd.C_below HR743.out hb)) | (have n6_ := zad (Kd.C_below (taaq) hb))); (first | (with_reducible have n7_ := zad (Kd.C_below (zam HR746_0.out _) hb)) | (with_reducible have n7_ := zad (Kd.C_below HR746_0.out hb)) | (have n7_ := zad (Kd.C_below (tacm) hb))); have n8_ := zad (zbh (taaa) hb); clear HO_5 HO_6 HO_20 HO_22 HO_175 HL746_0 HR743 HR746_0 HB; have HO_5 := n0_; have HO_6 := n1_; have HO_20 := n2_; have HO_22 := n3_; have HO_175 := n4_; have HL746_0 := n5_; have HR743 := n6_; have HR746_0 := n7_; have HB := n8_; clear n0_ n1_ n2_ n3_ n4_ n5_ n6_ n7_ n8_ HR744_0; have HR744_0 := n44_; clear n44_; (try clear hb); (try clear hb2); (try clear hk); (try clear hi)))
                                               go_roundg k7
                                               case measure => have := HJ7.out; have := HJ20.out; have := HK3.out; have := HJ63.out; have := HJ69.out; have := HK6.out; have := HK7.out; omega
                                               case rel => exact ⟨(wrap64 (x26_7 + 1)), (wrap64 (x177_7 + 1)), (taad), (taad), H', ⟨tadl⟩, ⟨taah⟩, ⟨taam⟩, ⟨taar⟩, ⟨taas⟩, ⟨tacn⟩, ⟨taaq⟩, ⟨tabc⟩, ⟨taaa⟩⟩
                                             · replace c94 := zbj.mpr c94
                                               subst c94; have H1 : (laws_FnCoversOfLists.l2 k7 t698 t701 t730 t734 (rd_L1 y740 x167_6) x26_7 y740 (y740.length : Int) x167_6 t701 (t701.length : Int) (wrap64 (x177_7 + 1))) = some r := by rw [if_neg (show ¬ (false = true) by decide)] at H; exact H
                                               clear H; have H := H1; clear H1; have H' := zad H
                                               clear H; have p746 : 0 ≤ (x177_7 : Int) := zas (taab)
                                               have q746 : x177_7 < (t701.length : Int) := zas (taab)
                                               obtain ⟨ad746, A746_0, c746_0, e746, hx746_0, hl746_0, hi746_0⟩ := at_L1 (Kd.S_reads' HO_175.out).2.2 x177_7 p746 q746
                                               cases e746
                                               obtain ⟨ce746, hce746, hMe746, hcc746⟩ := Kd.S_get HO_175.out [] x177_7 p746 (tafj)
                                               obtain ⟨ve746_0, rfl, ge746_0⟩ := hMe746
                                               have hv746_0 := hcc746 0 _ rfl
                                               rw [Nat.add_zero, show ((Kd.slice 3 (Kd.int .i64))).sz = 1 from rfl, Nat.mul_one] at hv746_0
                                               replace hv746_0 := zbf (hv746_0.symm.trans hx746_0)
                                               rw [hv746_0] at ge746_0
                                               have HL746_0 := zad (show Kd.R (Kd.int .i64) 3 _ _ _ _ (rd_L1 t701 x177_7) from ge746_0)
                                               clear hv746_0 ge746_0 hcc746 hce746; have HR746_0 := zad hi746_0; have HC746_0 := zad hl746_0; clear hi746_0 hl746_0; replace p746 := eq_true p746
                                               replace q746 := eq_true q746
                                               go_wp2_with (first | ((with_reducible refine zbi (f := 22) rfl ?_); refine zbo (some 183) rfl rfl Try.func22 (by kernel_rfl) rfl #[.slice A744_0 (rd_L1 y740 x167_6).length c744_0, .slice A746_0 (rd_L1 t701 x177_7).length c746_0] rfl (taae) ?_; (with_reducible refine (laws_pBelow.calls k7 _ _ (rd_L1 y740 x167_6) _ _ (rd_L1 t701 x177_7) false _ ?side1 ?side2 ?side3 ?side4 A93.out).mono ?_); (case side1 => exact taft); (case side2 => exact HC744_0.out); (case side3 => exact tafz); (case side4 => exact HC746_0.out); rintro e w96 ⟨rfl, hb⟩; refine ⟨_, rfl, ?_⟩; (first | (with_reducible have n44_ := zad (Kd.C_below (zam HR744_0.out _) hb)) | (with_reducible have n44_ := zad (Kd.C_below HR744_0.out hb)) | (have n44_ := zad (Kd.C_below (tabc) hb))); have n0_ := zad (zbt (taah) hb); have n1_ := zad (Kd.S_below (taam) hb); have n2_ := zad (Kd.S_below (taar) hb); have n3_ := zad (zbt (taas) hb); have n4_ := zad (Kd.S_below (tacn) hb); have n5_ := zad (zbt (taex) hb); (first | (with_reducible have n6_ := zad (Kd.C_below (zam HR743.out _) hb)) | (with_reducible have n6_ := zad (Kd.C_below HR743.out hb)) | (have n6_ := zad (Kd.C_below (taaq) hb))); (first | (with_reducible have n7_ := zad (Kd.C_below (zam HR746_0.out _) hb)) | (with_reducible have n7_ := zad (Kd.C_below HR746_0.out hb)) | (have n7_ := zad (Kd.C_below (tacm) hb))); have n8_ := zad (zbh (taaa) hb); clear HO_5 HO_6 HO_20 HO_22 HO_175 HL746_0 HR743 HR746_0 HB; have HO_5 := n0_; have HO_6 := n1_; have HO_20 := n2_; have HO_22 := n3_; have HO_175 := n4_; have HL746_0 := n5_; have HR743 := n6_; have HR746_0 := n7_; have HB := n8_; clear n0_ n1_ n2_ n3_ n4_ n5_ n6_ n7_ n8_ HR744_0; have HR744_0 := n44_; clear n44_; (try clear hb); (try clear hb2); (try clear hk); (try clear hi)))
                                               go_roundg k7
                                               case measure => have := HJ7.out; have := HJ20.out; have := HK3.out; have := HJ63.out; have := HJ69.out; have := HK6.out; have := HK7.out; omega
                                               case rel => exact ⟨(x26_7), (wrap64 (x177_7 + 1)), (taad), (taad), H', ⟨tadl⟩, ⟨taah⟩, ⟨taam⟩, ⟨taar⟩, ⟨taas⟩, ⟨tacn⟩, ⟨taaq⟩, ⟨tabc⟩, ⟨taaa⟩⟩
                                           · rw [if_neg c92] at H
                                             exact absurd H (taac)
                                         · rw [if_neg c91] at H
                                           exact absurd H (taac)
                                       · rw [if_neg c90] at H
                                         have c90b0 : decide (x177_7 < (t701.length : Int)) = false := zbk c90
                                         clear c90; by_cases c97 : x26_7 = 0
                                         · rw [if_pos c97] at H
                                           have c97b0 : (x26_7 == 0) = true := beq_iff_eq.mpr c97
                                           have c97b1 : (x26_7 != 0) = false := bne_eq_false_iff_eq.mpr c97
                                           clear c97; obtain rfl := zbf H
                                           go_wp2
                                           go_ret
                                           exact ⟨taaf, taaa⟩
                                         · rw [if_neg c97] at H
                                           have c97b0 : (x26_7 == 0) = false := zbp.mpr c97
                                           have c97b1 : (x26_7 != 0) = true := bne_iff_ne.mpr c97
                                           have H' := zad H
                                           clear H; go_wp2
                                           go_roundg k7
                                           case measure => have := HJ7.out; have := HJ20.out; have := HK3.out; have := HJ63.out; have := HJ69.out; have := HK6.out; have := HK7.out; omega
                                           case rel => exact ⟨(wrap64 (x167_6 + 1)), (taad), H', ⟨tadl⟩, ⟨taah⟩, ⟨taam⟩, ⟨by (with_reducible repeat (first | apply Kd.S_alloc | apply Kd.S_drewN | apply Kd.S_drew)); exact Kd.S_mono HO_20.out (fun _ hk => ⟨hk.1, ⟨hk.2.1, hk.2.2.1⟩⟩)⟩, ⟨taas⟩, ⟨taaq⟩, ⟨taaa⟩⟩
                                   · replace c87 := zbj.mpr c87
                                     subst c87; have H1 : (some false) = some r := by rw [if_neg (show ¬ (false = true) by decide)] at H; exact H
                                     clear H; have H := H1; clear H1; obtain rfl := zbf H
                                     have p744 : 0 ≤ (x167_6 : Int) := zas (taab)
                                     have q744 : x167_6 < (y740.length : Int) := zas (taab)
                                     obtain ⟨ad744, A744_0, c744_0, e744, hx744_0, hl744_0, hi744_0⟩ := at_L1 HR743.out x167_6 p744 q744
                                     cases e744
                                     have HR744_0 := zad hi744_0; have HC744_0 := zad hl744_0; clear hi744_0 hl744_0; replace p744 := eq_true p744
                                     replace q744 := eq_true q744
                                     go_wp2_with (first | ((with_reducible refine zbi (f := 22) rfl ?_); refine zbo (some 173) rfl rfl Try.func22 (by kernel_rfl) rfl #[.slice A744_0 (rd_L1 y740 x167_6).length c744_0, .slice Ao10 t698.length co10] rfl (taae) ?_; (with_reducible refine (laws_pBelow.calls k6 _ _ (rd_L1 y740 x167_6) _ _ t698 false _ ?side1 ?side2 ?side3 ?side4 A86.out).mono ?_); (case side1 => exact taft); (case side2 => exact HC744_0.out); (case side3 => exact tafs); (case side4 => exact (zbg HO_5.out).2.1); rintro e w98 ⟨rfl, hb⟩; refine ⟨_, rfl, ?_⟩; (first | (with_reducible have n44_ := zad (Kd.C_below (zam HR744_0.out _) hb)) | (with_reducible have n44_ := zad (Kd.C_below HR744_0.out hb)) | (have n44_ := zad (Kd.C_below (tabc) hb))); have n0_ := zad (zbt (taah) hb); have n1_ := zad (Kd.S_below (taam) hb); have n2_ := zad (Kd.S_below (taar) hb); have n3_ := zad (zbt (taas) hb); (first | (with_reducible have n4_ := zad (Kd.C_below (zam HR743.out _) hb)) | (with_reducible have n4_ := zad (Kd.C_below HR743.out hb)) | (have n4_ := zad (Kd.C_below (taaq) hb))); have n5_ := zad (zbh (taaa) hb); clear HO_5 HO_6 HO_20 HO_22 HR743 HB; have HO_5 := n0_; have HO_6 := n1_; have HO_20 := n2_; have HO_22 := n3_; have HR743 := n4_; have HB := n5_; clear n0_ n1_ n2_ n3_ n4_ n5_ HR744_0; have HR744_0 := n44_; clear n44_; (try clear hb); (try clear hb2); (try clear hk); (try clear hi)))
                                     go_ret
                                     exact ⟨taaf, taaa⟩
                                 · rw [if_neg c85] at H
                                   exact absurd H (taac)
                               · rw [if_neg c84] at H
                                 exact absurd H (taac)
                             · rw [if_neg c83] at H
                               have c83b0 : decide (x167_6 < (y740.length : Int)) = false := zbk c83
                               clear c83; have H' := zad H
                               clear H; obtain ⟨Ao99, co99, eo99⟩ := Kd.S_slice HO_6.out
                               subst eo99; go_wp2
                               go_loopg [192] k6 (fun kq v192 w' => ∃ (x192_7 : Int), v192 = .int .i64 x192_7 ∧ Aside0 (laws_FnCoversOfLists.l3 kq t730 t734 t701 (t701.length : Int) x192_7 = some r) ∧ Aside0 (kq ≤ k6) ∧ Aside0 (Kd.S (Kd.slice 3 (Kd.int .i64)) 22 w' w.heap.size (fun k_ => some k_ ≠ (v736 : Value).ownBlock ∧ some k_ ≠ ((.slice Ao99 t701.length co99) : Value).ownBlock) (.slice Ao82 t730.length co82) t730) ∧ Aside0 (Kd.R (Kd.int .i64) 3 w' w.heap.size (fun _ => True) v736 t734) ∧ Aside0 (Kd.S (Kd.slice 3 (Kd.int .i64)) 22 w' w.heap.size (fun k_ => some k_ ≠ ((.slice Ao82 t730.length co82) : Value).ownBlock ∧ some k_ ≠ (v736 : Value).ownBlock) (.slice Ao99 t701.length co99) t701) ∧ Aside0 (Kd.C (Kd.slice 3 (Kd.int .i64)) w' A81 y740.length y740) ∧ Aside0 (Below w.heap.size w w'))
                               case atStart => exact ⟨(0), (taad), H', ⟨zcb _⟩, ⟨by (with_reducible repeat (first | apply Kd.S_alloc | apply Kd.S_drewN | apply Kd.S_drew)); exact Kd.S_mono HO_20.out (fun _ hk => ⟨hk.2.2, hk.2.1⟩)⟩, ⟨by (with_reducible repeat (first | apply zai | apply zaj | apply zak)); exact zbr HO_22.out (fun _ hk => trivial)⟩, ⟨by (with_reducible repeat (first | apply Kd.S_alloc | apply Kd.S_drewN | apply Kd.S_drew)); exact Kd.S_mono HO_6.out (fun _ hk => ⟨hk.2.1, hk.2.2⟩)⟩, ⟨taaq⟩, ⟨taaa⟩⟩
                               case round =>
                                clear H'
                                try clear c1
                                try clear c2
                                try clear p2
                                try clear c3
                                try clear c4
                                try clear c5
                                try clear c6
                                try clear p6
                                try clear c7
                                try clear p7
                                try clear q7
                                try clear hx7
                                try clear qi7
                                try clear c8
                                try clear q8
                                try clear c9
                                try clear c13
                                try clear c13b0
                                try clear c13b1
                                try clear c13b2
                                try clear c14
                                try clear c17
                                try clear c21
                                try clear c22
                                try clear c23
                                try clear c25
                                try clear c25b0
                                try clear c25b1
                                try clear c25b2
                                try clear c27
                                try clear c28
                                try clear c29
                                try clear c31
                                try clear c31b0
                                try clear c32
                                try clear c32b0
                                try clear c33
                                try clear c33b0
                                try clear c35
                                try clear c37
                                try clear c39
                                try clear c39b0
                                try clear c39b1
                                try clear c40
                                try clear c40b0
                                try clear c40b1
                                try clear c41
                                try clear c41b0
                                try clear c43
                                try clear c43b0
                                try clear c44
                                try clear c44b0
                                try clear c46
                                try clear c62
                                try clear p64
                                try clear c66
                                try clear c68
                                try clear c72
                                try clear p72
                                try clear q72
                                try clear hx72
                                try clear c73
                                try clear c73b0
                                try clear c73b1
                                try clear c73b2
                                try clear p73
                                try clear q73
                                try clear hx73
                                try clear qi73
                                try clear c74
                                try clear p74
                                try clear q74
                                try clear hx74
                                try clear c75
                                try clear c75b0
                                try clear c75b1
                                try clear c79
                                try clear c80
                                try clear c80b0
                                try clear c80b1
                                try clear c81
                                try clear q81
                                try clear c83
                                try clear c83b0
                                try clear c84
                                try clear c84b0
                                try clear c85
                                try clear c85b0
                                try clear c87
                                try clear c90
                                try clear c90b0
                                try clear c91
                                try clear c91b0
                                try clear c92
                                try clear c92b0
                                try clear c94
                                try clear c97
                                try clear c97b0
                                try clear c97b1
                                try clear hx721_0
                                try clear hx728_0
                                try clear hx738_0
                                try clear hx744_0
                                try clear hx746_0
                                try clear p2
                                try clear p6
                                try clear p64
                                try clear p7
                                try clear p72
                                try clear p721
                                try clear p728
                                try clear p73
                                try clear p738
                                try clear p74
                                try clear p744
                                try clear p746
                                try clear q7
                                try clear q72
                                try clear q721
                                try clear q728
                                try clear q73
                                try clear q738
                                try clear q74
                                try clear q744
                                try clear q746
                                try clear q8
                                try clear q81
                                obtain ⟨x192_7, rfl, HA, HK7, HO_20, HO_22, HO_190, HR743, HB⟩ := hrel
                                cases gk with
                                | zero => exact absurd HA.out (by simp [laws_FnCoversOfLists.l3])
                                | succ k7 =>
                                 have H := HA.out
                                 clear HA; simp only [laws_FnCoversOfLists.l3] at H
                                 by_cases c100 : x192_7 < (t701.length : Int)
                                 · rw [if_pos c100] at H
                                   have c100b0 : decide (x192_7 < (t701.length : Int)) = true := zba c100
                                   clear c100; by_cases c101 : 0 ≤ x192_7
                                   · rw [if_pos c101] at H
                                     have c101b0 : decide (0 ≤ x192_7) = true := zba c101
                                     clear c101; by_cases c102 : x192_7 < (t701.length : Int)
                                     · rw [if_pos c102] at H
                                       have c102b0 : decide (x192_7 < (t701.length : Int)) = true := zba c102
                                       clear c102; replace H := zay.mp H; obtain ⟨t767, A1030, H⟩ := H
                                       replace H : (if t767 = true then ((laws_pSame.f k7 (rd_L1 t701 x192_7) t734).bind fun t768 => (if t768 = true then (some false) else (laws_FnCoversOfLists.l4 k7 t730 t734 (rd_L1 t701 x192_7) t701 (t701.length : Int) x192_7 t730 (t730.length : Int) 0))) else (some false)) = some r := H
                                       have A103 := zad A1030; clear A1030; by_cases c104 : t767 = true
                                       · subst c104
                                         have H1 : ((laws_pSame.f k7 (rd_L1 t701 x192_7) t734).bind fun t768 => (if t768 = true then (some false) else (laws_FnCoversOfLists.l4 k7 t730 t734 (rd_L1 t701 x192_7) t701 (t701.length : Int) x192_7 t730 (t730.length : Int) 0))) = some r := by rw [if_pos rfl] at H; exact H
                                         clear H; have H := H1; clear H1; replace H := zay.mp H; obtain ⟨t768, A1050, H⟩ := H
                                         replace H : (if t768 = true then (some false) else (laws_FnCoversOfLists.l4 k7 t730 t734 (rd_L1 t701 x192_7) t701 (t701.length : Int) x192_7 t730 (t730.length : Int) 0)) = some r := H
                                         have A105 := zad A1050; clear A1050; by_cases c106 : t768 = true
                                         · subst c106
                                           have H1 : (some false) = some r := by rw [if_pos rfl] at H; exact H
                                           clear H; have H := H1; clear H1; obtain rfl := zbf H
                                           have p748 : 0 ≤ (x192_7 : Int) := zas (taab)
                                           have q748 : x192_7 < (t701.length : Int) := zas (taab)
                                           obtain ⟨ad748, A748_0, c748_0, e748, hx748_0, hl748_0, hi748_0⟩ := at_L1 (Kd.S_reads' HO_190.out).2.2 x192_7 p748 q748
                                           cases e748
                                           obtain ⟨ce748, hce748, hMe748, hcc748⟩ := Kd.S_get HO_190.out [] x192_7 p748 (taff)
                                           obtain ⟨ve748_0, rfl, ge748_0⟩ := hMe748
                                           have hv748_0 := hcc748 0 _ rfl
                                           rw [Nat.add_zero, show ((Kd.slice 3 (Kd.int .i64))).sz = 1 from rfl, Nat.mul_one] at hv748_0
                                           replace hv748_0 := zbf (hv748_0.symm.trans hx748_0)
                                           rw [hv748_0] at ge748_0
                                           have HL748_0 := zad (show Kd.R (Kd.int .i64) 3 _ _ _ _ (rd_L1 t701 x192_7) from ge748_0)
                                           clear hv748_0 ge748_0 hcc748 hce748; have HR748_0 := zad hi748_0; have HC748_0 := zad hl748_0; clear hi748_0 hl748_0; replace p748 := eq_true p748
                                           replace q748 := eq_true q748
                                           go_wp2_with (first | ((with_reducible refine zbi (f := 30) rfl ?_); refine zbo (some 198) rfl rfl Try.func30 (by kernel_rfl) rfl #[.slice Ao82 t730.length co82, .slice A748_0 (rd_L1 t701 x192_7).length c748_0] rfl (taae) ?_; (with_reducible refine (laws_pHasRow.calls k7 _ _ t730 _ _ (rd_L1 t701 x192_7) true _ ?side1 ?side2 ?side3 ?side4 A103.out).mono ?_); (case side1 => repeat (first | exact (Kd.S_reads' HO_20.out).2.2 | (with_reducible refine zal ?_ _) | (with_reducible refine zam ?_ _) | (with_reducible refine zan ?_))); (case side2 => exact (Kd.S_reads' HO_20.out).2.1); (case side3 => repeat (first | exact (taao) | (with_reducible refine zal ?_ _) | (with_reducible refine zam ?_ _) | (with_reducible refine zan ?_))); (case side4 => exact HC748_0.out); rintro e w' ⟨rfl, ⟨nd, rfl⟩⟩; refine ⟨_, rfl, ?_⟩; obtain ⟨Ao107, co107, eo107⟩ := zbv HO_22.out; subst eo107) | (go_at_call 20; (with_reducible refine (laws_pSame.calls k7 _ _ (rd_L1 t701 x192_7) _ _ t734 true _ ?side1 ?side2 ?side3 ?side4 A105.out).mono ?_); (case side1 => repeat (first | exact (taao) | (with_reducible refine zal ?_ _) | (with_reducible refine zam ?_ _) | (with_reducible refine zan ?_))); (case side2 => exact HC748_0.out); (case side3 => repeat (first | exact (zbg HO_22.out).2.2 | (with_reducible refine zal ?_ _) | (with_reducible refine zam ?_ _) | (with_reducible refine zan ?_))); (case side4 => exact (zbg HO_22.out).2.1); rintro e w' ⟨rfl, ⟨nd, rfl⟩⟩))
                                           go_ret
                                           exact ⟨taaf, taaa⟩
                                         · replace c106 := zbj.mpr c106
                                           subst c106; have H1 : (laws_FnCoversOfLists.l4 k7 t730 t734 (rd_L1 t701 x192_7) t701 (t701.length : Int) x192_7 t730 (t730.length : Int) 0) = some r := by rw [if_neg (show ¬ (false = true) by decide)] at H; exact H
                                           clear H; have H := H1; clear H1; have H' := zad H
                                           clear H; have p748 : 0 ≤ (x192_7 : Int) := zas (taab)
                                           have q748 : x192_7 < (t701.length : Int) := zas (taab)
                                           obtain ⟨ad748, A748_0, c748_0, e748, hx748_0, hl748_0, hi748_0⟩ := at_L1 (Kd.S_reads' HO_190.out).2.2 x192_7 p748 q748
                                           cases e748
                                           obtain ⟨ce748, hce748, hMe748, hcc748⟩ := Kd.S_get HO_190.out [] x192_7 p748 (taff)
                                           obtain ⟨ve748_0, rfl, ge748_0⟩ := hMe748
                                           have hv748_0 := hcc748 0 _ rfl
                                           rw [Nat.add_zero, show ((Kd.slice 3 (Kd.int .i64))).sz = 1 from rfl, Nat.mul_one] at hv748_0
                                           replace hv748_0 := zbf (hv748_0.symm.trans hx748_0)
                                           rw [hv748_0] at ge748_0
                                           have HL748_0 := zad (show Kd.R (Kd.int .i64) 3 _ _ _ _ (rd_L1 t701 x192_7) from ge748_0)
                                           clear hv748_0 ge748_0 hcc748 hce748; have HR748_0 := zad hi748_0; have HC748_0 := zad hl748_0; clear hi748_0 hl748_0; replace p748 := eq_true p748
                                           replace q748 := eq_true q748
                                           go_wp2_with (first | ((with_reducible refine zbi (f := 30) rfl ?_); refine zbo (some 198) rfl rfl Try.func30 (by kernel_rfl) rfl #[.slice Ao82 t730.length co82, .slice A748_0 (rd_L1 t701 x192_7).length c748_0] rfl (taae) ?_; (with_reducible refine (laws_pHasRow.calls k7 _ _ t730 _ _ (rd_L1 t701 x192_7) true _ ?side1 ?side2 ?side3 ?side4 A103.out).mono ?_); (case side1 => repeat (first | exact (Kd.S_reads' HO_20.out).2.2 | (with_reducible refine zal ?_ _) | (with_reducible refine zam ?_ _) | (with_reducible refine zan ?_))); (case side2 => exact (Kd.S_reads' HO_20.out).2.1); (case side3 => repeat (first | exact (taao) | (with_reducible refine zal ?_ _) | (with_reducible refine zam ?_ _) | (with_reducible refine zan ?_))); (case side4 => exact HC748_0.out); rintro e w' ⟨rfl, ⟨nd, rfl⟩⟩; refine ⟨_, rfl, ?_⟩; obtain ⟨Ao108, co108, eo108⟩ := zbv HO_22.out; subst eo108) | (go_at_call 20; (with_reducible refine (laws_pSame.calls k7 _ _ (rd_L1 t701 x192_7) _ _ t734 false _ ?side1 ?side2 ?side3 ?side4 A105.out).mono ?_); (case side1 => repeat (first | exact (taao) | (with_reducible refine zal ?_ _) | (with_reducible refine zam ?_ _) | (with_reducible refine zan ?_))); (case side2 => exact HC748_0.out); (case side3 => repeat (first | exact (zbg HO_22.out).2.2 | (with_reducible refine zal ?_ _) | (with_reducible refine zam ?_ _) | (with_reducible refine zan ?_))); (case side4 => exact (zbg HO_22.out).2.1); rintro e w' ⟨rfl, ⟨nd, rfl⟩⟩))
                                           go_loopg [207] k7 (fun kq v207 w' => ∃ (x207_8 : Int), v207 = .int .i64 x207_8 ∧ Aside0 (laws_FnCoversOfLists.l4 kq t730 t734 (rd_L1 t701 x192_7) t701 (t701.length : Int) x192_7 t730 (t730.length : Int) x207_8 = some r) ∧ Aside0 (kq ≤ k7) ∧ Aside0 (Kd.S (Kd.slice 3 (Kd.int .i64)) 22 w' w.heap.size (fun k_ => some k_ ≠ ((.slice Ao108 t734.length co108) : Value).ownBlock ∧ some k_ ≠ ((.slice (some ad748) t701.length co99) : Value).ownBlock) (.slice Ao82 t730.length co82) t730) ∧ Aside0 (Kd.R (Kd.int .i64) 3 w' w.heap.size (fun _ => True) (.slice Ao108 t734.length co108) t734) ∧ Aside0 (Kd.S (Kd.slice 3 (Kd.int .i64)) 22 w' w.heap.size (fun k_ => some k_ ≠ ((.slice Ao82 t730.length co82) : Value).ownBlock ∧ some k_ ≠ ((.slice Ao108 t734.length co108) : Value).ownBlock ∧ some k_ ≠ ((.slice Ao82 t730.length co82) : Value).ownBlock) (.slice (some ad748) t701.length co99) t701) ∧ Aside0 (Kd.S (Kd.slice 3 (Kd.int .i64)) 22 w' w.heap.size (fun k_ => some k_ ≠ ((.slice Ao108 t734.length co108) : Value).ownBlock ∧ some k_ ≠ ((.slice (some ad748) t701.length co99) : Value).ownBlock) (.slice Ao82 t730.length co82) t730) ∧ Aside0 (Kd.C (Kd.slice 3 (Kd.int .i64)) w' A81 y740.length y740) ∧ Aside0 (Kd.C (Kd.int .i64) w' A748_0 (rd_L1 t701 x192_7).length (rd_L1 t701 x192_7)) ∧ Aside0 (Below w.heap.size w w'))
                                           case atStart => exact ⟨(0), (taad), H', ⟨zcb _⟩, ⟨taar⟩, ⟨taas⟩, ⟨by (with_reducible repeat (first | apply Kd.S_alloc | apply Kd.S_drewN | apply Kd.S_drew)); exact Kd.S_mono HO_190.out (fun _ hk => ⟨hk.1, ⟨hk.2, hk.1⟩⟩)⟩, ⟨taar⟩, ⟨taaq⟩, ⟨taao⟩, ⟨taaa⟩⟩
                                           case round =>
                                            clear H'
                                            try clear c1
                                            try clear c2
                                            try clear p2
                                            try clear c3
                                            try clear c4
                                            try clear c5
                                            try clear c6
                                            try clear p6
                                            try clear c7
                                            try clear p7
                                            try clear q7
                                            try clear hx7
                                            try clear qi7
                                            try clear c8
                                            try clear q8
                                            try clear c9
                                            try clear c10
                                            try clear c13
                                            try clear c13b0
                                            try clear c13b1
                                            try clear c13b2
                                            try clear c14
                                            try clear c17
                                            try clear c21
                                            try clear c22
                                            try clear c23
                                            try clear c25
                                            try clear c25b0
                                            try clear c25b1
                                            try clear c25b2
                                            try clear c27
                                            try clear c28
                                            try clear c29
                                            try clear c30
                                            try clear c31
                                            try clear c31b0
                                            try clear c32
                                            try clear c32b0
                                            try clear c33
                                            try clear c33b0
                                            try clear c35
                                            try clear c37
                                            try clear c39
                                            try clear c39b0
                                            try clear c39b1
                                            try clear c40
                                            try clear c40b0
                                            try clear c40b1
                                            try clear c41
                                            try clear c41b0
                                            try clear c43
                                            try clear c43b0
                                            try clear c44
                                            try clear c44b0
                                            try clear c46
                                            try clear c62
                                            try clear p64
                                            try clear c66
                                            try clear c68
                                            try clear c72
                                            try clear p72
                                            try clear q72
                                            try clear hx72
                                            try clear c73
                                            try clear c73b0
                                            try clear c73b1
                                            try clear c73b2
                                            try clear p73
                                            try clear q73
                                            try clear hx73
                                            try clear qi73
                                            try clear c74
                                            try clear p74
                                            try clear q74
                                            try clear hx74
                                            try clear c75
                                            try clear c75b0
                                            try clear c75b1
                                            try clear c79
                                            try clear c80
                                            try clear c80b0
                                            try clear c80b1
                                            try clear c81
                                            try clear q81
                                            try clear c83
                                            try clear c83b0
                                            try clear c84
                                            try clear c84b0
                                            try clear c85
                                            try clear c85b0
                                            try clear c87
                                            try clear c90
                                            try clear c90b0
                                            try clear c91
                                            try clear c91b0
                                            try clear c92
                                            try clear c92b0
                                            try clear c94
                                            try clear c97
                                            try clear c97b0
                                            try clear c97b1
                                            try clear c100
                                            try clear c100b0
                                            try clear c101
                                            try clear c101b0
                                            try clear c102
                                            try clear c102b0
                                            try clear c104
                                            try clear c106
                                            try clear hx721_0
                                            try clear hx728_0
                                            try clear hx738_0
                                            try clear hx744_0
                                            try clear hx746_0
                                            try clear hx748_0
                                            try clear p2
                                            try clear p6
                                            try clear p64
                                            try clear p7
                                            try clear p72
                                            try clear p721
                                            try clear p728
                                            try clear p73
                                            try clear p738
                                            try clear p74
                                            try clear p744
                                            try clear p746
                                            try clear p748
                                            try clear q7
                                            try clear q72
                                            try clear q721
                                            try clear q728
                                            try clear q73
                                            try clear q738
                                            try clear q74
                                            try clear q744
                                            try clear q746
                                            try clear q748
                                            try clear q8
                                            try clear q81
                                            obtain ⟨x207_8, rfl, HA, HK8, HO_20, HO_22, HO_190, HO_205, HR743, HR748_0, HB⟩ := hrel
                                            cases gk with
                                            | zero => exact absurd HA.out (by simp [laws_FnCoversOfLists.l4])
                                            | succ k8 =>
                                             have H := HA.out
                                             clear HA; simp only [laws_FnCoversOfLists.l4] at H
                                             by_cases c109 : x207_8 < (t730.length : Int)
                                             · rw [if_pos c109] at H
                                               have c109b0 : decide (x207_8 < (t730.length : Int)) = true := zba c109
                                               clear c109; by_cases c110 : 0 ≤ x207_8
                                               · rw [if_pos c110] at H
                                                 have c110b0 : decide (0 ≤ x207_8) = true := zba c110
                                                 clear c110; by_cases c111 : x207_8 < (t730.length : Int)
                                                 · rw [if_pos c111] at H
                                                   have c111b0 : decide (x207_8 < (t730.length : Int)) = true := zba c111
                                                   clear c111; replace H := zay.mp H; obtain ⟨t770, A1120, H⟩ := H
                                                   replace H : (if t770 = true then ((laws_pSame.f k8 (rd_L1 t730 x207_8) (rd_L1 t701 x192_7)).bind fun t771 => (if t771 = true then (laws_FnCoversOfLists.l4 k8 t730 t734 (rd_L1 t701 x192_7) t701 (t701.length : Int) x192_7 t730 (t730.length : Int) (wrap64 (x207_8 + 1))) else ((laws_pSame.f k8 (rd_L1 t730 x207_8) t734).bind fun t772 => (if t772 = true then (laws_FnCoversOfLists.l4 k8 t730 t734 (rd_L1 t701 x192_7) t701 (t701.length : Int) x192_7 t730 (t730.length : Int) (wrap64 (x207_8 + 1))) else (some false))))) else (laws_FnCoversOfLists.l4 k8 t730 t734 (rd_L1 t701 x192_7) t701 (t701.length : Int) x192_7 t730 (t730.length : Int) (wrap64 (x207_8 + 1)))) = some r := H
                                                   have A112 := zad A1120; clear A1120; by_cases c113 : t770 = true
                                                   · subst c113
                                                     have H1 : ((laws_pSame.f k8 (rd_L1 t730 x207_8) (rd_L1 t701 x192_7)).bind fun t771 => (if t771 = true then (laws_FnCoversOfLists.l4 k8 t730 t734 (rd_L1 t701 x192_7) t701 (t701.length : Int) x192_7 t730 (t730.length : Int) (wrap64 (x207_8 + 1))) else ((laws_pSame.f k8 (rd_L1 t730 x207_8) t734).bind fun t772 => (if t772 = true then (laws_FnCoversOfLists.l4 k8 t730 t734 (rd_L1 t701 x192_7) t701 (t701.length : Int) x192_7 t730 (t730.length : Int) (wrap64 (x207_8 + 1))) else (some false))))) = some r := by rw [if_pos rfl] at H; exact H
                                                     clear H; have H := H1; clear H1; replace H := zay.mp H; obtain ⟨t771, A1140, H⟩ := H
                                                     replace H : (if t771 = true then (laws_FnCoversOfLists.l4 k8 t730 t734 (rd_L1 t701 x192_7) t701 (t701.length : Int) x192_7 t730 (t730.length : Int) (wrap64 (x207_8 + 1))) else ((laws_pSame.f k8 (rd_L1 t730 x207_8) t734).bind fun t772 => (if t772 = true then (laws_FnCoversOfLists.l4 k8 t730 t734 (rd_L1 t701 x192_7) t701 (t701.length : Int) x192_7 t730 (t730.length : Int) (wrap64 (x207_8 + 1))) else (some false)))) = some r := H
                                                     have A114 := zad A1140; clear A1140; by_cases c115 : t771 = true
                                                     · subst c115
                                                       have H1 : (laws_FnCoversOfLists.l4 k8 t730 t734 (rd_L1 t701 x192_7) t701 (t701.length : Int) x192_7 t730 (t730.length : Int) (wrap64 (x207_8 + 1))) = some r := by rw [if_pos rfl] at H; exact H
                                                       clear H; have H := H1; clear H1; have H' := zad H
                                                       clear H; have p769 : 0 ≤ (x207_8 : Int) := zas (taab)
                                                       have q769 : x207_8 < (t730.length : Int) := zas (taab)
                                                       obtain ⟨ad769, A769_0, c769_0, e769, hx769_0, hl769_0, hi769_0⟩ := at_L1 (Kd.S_reads' HO_205.out).2.2 x207_8 p769 q769
                                                       cases e769
                                                       obtain ⟨ce769, hce769, hMe769, hcc769⟩ := Kd.S_get HO_205.out [] x207_8 p769 (tafc)
                                                       obtain ⟨ve769_0, rfl, ge769_0⟩ := hMe769
                                                       have hv769_0 := hcc769 0 _ rfl
                                                       rw [Nat.add_zero, show ((Kd.slice 3 (Kd.int .i64))).sz = 1 from rfl, Nat.mul_one] at hv769_0
                                                       replace hv769_0 := zbf (hv769_0.symm.trans hx769_0)
                                                       rw [hv769_0] at ge769_0
                                                       have HL769_0 := zad (show Kd.R (Kd.int .i64) 3 _ _ _ _ (rd_L1 t730 x207_8) from ge769_0)
                                                       clear hv769_0 ge769_0 hcc769 hce769; have HR769_0 := zad hi769_0; have HC769_0 := zad hl769_0; clear hi769_0 hl769_0; replace p769 := eq_true p769
                                                       replace q769 := eq_true q769
                                                       go_wp2_with (first | ((with_reducible refine zbi (f := 22) rfl ?_); refine zbo (some 213) rfl rfl Try.func22 (by kernel_rfl) rfl #[.slice A748_0 (rd_L1 t701 x192_7).length c748_0, .slice A769_0 (rd_L1 t730 x207_8).length c769_0] rfl (taae) ?_; (with_reducible refine (laws_pBelow.calls k8 _ _ (rd_L1 t701 x192_7) _ _ (rd_L1 t730 x207_8) true _ ?side1 ?side2 ?side3 ?side4 A112.out).mono ?_); (case side1 => repeat (first | exact (taao) | (with_reducible refine zal ?_ _) | (with_reducible refine zam ?_ _) | (with_reducible refine zan ?_))); (case side2 => exact HC748_0.out); (case side3 => repeat (first | exact (taax) | (with_reducible refine zal ?_ _) | (with_reducible refine zam ?_ _) | (with_reducible refine zan ?_))); (case side4 => exact HC769_0.out); rintro e w116 ⟨rfl, hb⟩; refine ⟨_, rfl, ?_⟩; have n0_ := zad (Kd.S_below (taar) hb); have n1_ := zad (zbt (taas) hb); have n2_ := zad (Kd.S_below (tabl) hb); have n3_ := zad (Kd.S_below (tabm) hb); have n4_ := zad (zbt (taco) hb); (first | (with_reducible have n5_ := zad (Kd.C_below (zam HR743.out _) hb)) | (with_reducible have n5_ := zad (Kd.C_below HR743.out hb)) | (have n5_ := zad (Kd.C_below (taaq) hb))); (first | (with_reducible have n6_ := zad (Kd.C_below (zam HR748_0.out _) hb)) | (with_reducible have n6_ := zad (Kd.C_below HR748_0.out hb)) | (have n6_ := zad (Kd.C_below (taao) hb))); (first | (with_reducible have n7_ := zad (Kd.C_below (zam HR769_0.out _) hb)) | (with_reducible have n7_ := zad (Kd.C_below HR769_0.out hb)) | (have n7_ := zad (Kd.C_below (taax) hb))); have n8_ := zad (zbh (taaa) hb); clear HO_20 HO_22 HO_190 HO_205 HL769_0 HR743 HR748_0 HR769_0 HB; have HO_20 := n0_; have HO_22 := n1_; have HO_190 := n2_; have HO_205 := n3_; have HL769_0 := n4_; have HR743 := n5_; have HR748_0 := n6_; have HR769_0 := n7_; have HB := n8_; clear n0_ n1_ n2_ n3_ n4_ n5_ n6_ n7_ n8_; (try clear hb); (try clear hb2); (try clear hk); (try clear hi)) | (go_at_call 20; (with_reducible refine (laws_pSame.calls k8 _ _ (rd_L1 t730 x207_8) _ _ (rd_L1 t701 x192_7) true _ ?side1 ?side2 ?side3 ?side4 A114.out).mono ?_); (case side1 => repeat (first | exact (taax) | (with_reducible refine zal ?_ _) | (with_reducible refine zam ?_ _) | (with_reducible refine zan ?_))); (case side2 => exact HC769_0.out); (case side3 => repeat (first | exact (taao) | (with_reducible refine zal ?_ _) | (with_reducible refine zam ?_ _) | (with_reducible refine zan ?_))); (case side4 => exact HC748_0.out); rintro e w' ⟨rfl, ⟨nd, rfl⟩⟩))
                                                       go_roundg k8
                                                       case measure => have := HJ7.out; have := HJ20.out; have := HK3.out; have := HJ63.out; have := HJ69.out; have := HK6.out; have := HK7.out; have := HK8.out; omega
                                                       case rel => exact ⟨(wrap64 (x207_8 + 1)), (taad), H', ⟨tacp⟩, ⟨taar⟩, ⟨taas⟩, ⟨tabl⟩, ⟨tabm⟩, ⟨taaq⟩, ⟨taao⟩, ⟨taaa⟩⟩
                                                     · replace c115 := zbj.mpr c115
                                                       subst c115; have H1 : ((laws_pSame.f k8 (rd_L1 t730 x207_8) t734).bind fun t772 => (if t772 = true then (laws_FnCoversOfLists.l4 k8 t730 t734 (rd_L1 t701 x192_7) t701 (t701.length : Int) x192_7 t730 (t730.length : Int) (wrap64 (x207_8 + 1))) else (some false))) = some r := by rw [if_neg (show ¬ (false = true) by decide)] at H; exact H
                                                       clear H; have H := H1; clear H1; replace H := zay.mp H; obtain ⟨t772, A1170, H⟩ := H
                                                       replace H : (if t772 = true then (laws_FnCoversOfLists.l4 k8 t730 t734 (rd_L1 t701 x192_7) t701 (t701.length : Int) x192_7 t730 (t730.length : Int) (wrap64 (x207_8 + 1))) else (some false)) = some r := H
                                                       have A117 := zad A1170; clear A1170; by_cases c118 : t772 = true
                                                       · subst c118
                                                         have H1 : (laws_FnCoversOfLists.l4 k8 t730 t734 (rd_L1 t701 x192_7) t701 (t701.length : Int) x192_7 t730 (t730.length : Int) (wrap64 (x207_8 + 1))) = some r := by rw [if_pos rfl] at H; exact H
                                                         clear H; have H := H1; clear H1; have H' := zad H
                                                         clear H; have p769 : 0 ≤ (x207_8 : Int) := zas (taab)
                                                         have q769 : x207_8 < (t730.length : Int) := zas (taab)
                                                         obtain ⟨ad769, A769_0, c769_0, e769, hx769_0, hl769_0, hi769_0⟩ := at_L1 (Kd.S_reads' HO_205.out).2.2 x207_8 p769 q769
                                                         cases e769
                                                         obtain ⟨ce769, hce769, hMe769, hcc769⟩ := Kd.S_get HO_205.out [] x207_8 p769 (tafc)
                                                         obtain ⟨ve769_0, rfl, ge769_0⟩ := hMe769
                                                         have hv769_0 := hcc769 0 _ rfl
                                                         rw [Nat.add_zero, show ((Kd.slice 3 (Kd.int .i64))).sz = 1 from rfl, Nat.mul_one] at hv769_0
                                                         replace hv769_0 := zbf (hv769_0.symm.trans hx769_0)
                                                         rw [hv769_0] at ge769_0
                                                         have HL769_0 := zad (show Kd.R (Kd.int .i64) 3 _ _ _ _ (rd_L1 t730 x207_8) from ge769_0)
                                                         clear hv769_0 ge769_0 hcc769 hce769; have HR769_0 := zad hi769_0; have HC769_0 := zad hl769_0; clear hi769_0 hl769_0; replace p769 := eq_true p769
                                                         replace q769 := eq_true q769
                                                         go_wp2_with (first | ((with_reducible refine zbi (f := 22) rfl ?_); refine zbo (some 213) rfl rfl Try.func22 (by kernel_rfl) rfl #[.slice A748_0 (rd_L1 t701 x192_7).length c748_0, .slice A769_0 (rd_L1 t730 x207_8).length c769_0] rfl (taae) ?_; (with_reducible refine (laws_pBelow.calls k8 _ _ (rd_L1 t701 x192_7) _ _ (rd_L1 t730 x207_8) true _ ?side1 ?side2 ?side3 ?side4 A112.out).mono ?_); (case side1 => repeat (first | exact (taao) | (with_reducible refine zal ?_ _) | (with_reducible refine zam ?_ _) | (with_reducible refine zan ?_))); (case side2 => exact HC748_0.out); (case side3 => repeat (first | exact (taax) | (with_reducible refine zal ?_ _) | (with_reducible refine zam ?_ _) | (with_reducible refine zan ?_))); (case side4 => exact HC769_0.out); rintro e w119 ⟨rfl, hb⟩; refine ⟨_, rfl, ?_⟩; have n0_ := zad (Kd.S_below (taar) hb); have n1_ := zad (zbt (taas) hb); have n2_ := zad (Kd.S_below (tabl) hb); have n3_ := zad (Kd.S_below (tabm) hb); have n4_ := zad (zbt (taco) hb); (first | (with_reducible have n5_ := zad (Kd.C_below (zam HR743.out _) hb)) | (with_reducible have n5_ := zad (Kd.C_below HR743.out hb)) | (have n5_ := zad (Kd.C_below (taaq) hb))); (first | (with_reducible have n6_ := zad (Kd.C_below (zam HR748_0.out _) hb)) | (with_reducible have n6_ := zad (Kd.C_below HR748_0.out hb)) | (have n6_ := zad (Kd.C_below (taao) hb))); (first | (with_reducible have n7_ := zad (Kd.C_below (zam HR769_0.out _) hb)) | (with_reducible have n7_ := zad (Kd.C_below HR769_0.out hb)) | (have n7_ := zad (Kd.C_below (taax) hb))); have n8_ := zad (zbh (taaa) hb); clear HO_20 HO_22 HO_190 HO_205 HL769_0 HR743 HR748_0 HR769_0 HB; have HO_20 := n0_; have HO_22 := n1_; have HO_190 := n2_; have HO_205 := n3_; have HL769_0 := n4_; have HR743 := n5_; have HR748_0 := n6_; have HR769_0 := n7_; have HB := n8_; clear n0_ n1_ n2_ n3_ n4_ n5_ n6_ n7_ n8_; (try clear hb); (try clear hb2); (try clear hk); (try clear hi)) | (go_at_call 20; (with_reducible refine (laws_pSame.calls k8 _ _ (rd_L1 t730 x207_8) _ _ (rd_L1 t701 x192_7) false _ ?side1 ?side2 ?side3 ?side4 A114.out).mono ?_); (case side1 => repeat (first | exact (taax) | (with_reducible refine zal ?_ _) | (with_reducible refine zam ?_ _) | (with_reducible refine zan ?_))); (case side2 => exact HC769_0.out); (case side3 => repeat (first | exact (taao) | (with_reducible refine zal ?_ _) | (with_reducible refine zam ?_ _) | (with_reducible refine zan ?_))); (case side4 => exact HC748_0.out); rintro e w' ⟨rfl, ⟨nd, rfl⟩⟩) | (go_at_call 20; (with_reducible refine (laws_pSame.calls k8 _ _ (rd_L1 t730 x207_8) _ _ t734 true _ ?side1 ?side2 ?side3 ?side4 A117.out).mono ?_); (case side1 => repeat (first | exact (taax) | (with_reducible refine zal ?_ _) | (with_reducible refine zam ?_ _) | (with_reducible refine zan ?_))); (case side2 => exact HC769_0.out); (case side3 => repeat (first | exact (zbg HO_22.out).2.2 | (with_reducible refine zal ?_ _) | (with_reducible refine zam ?_ _) | (with_reducible refine zan ?_))); (case side4 => exact (zbg HO_22.out).2.1); rintro e w' ⟨rfl, ⟨nd, rfl⟩⟩))
                                                         go_roundg k8
                                                         case measure => have := HJ7.out; have := HJ20.out; have := HK3.out; have := HJ63.out; have := HJ69.out; have := HK6.out; have := HK7.out; have := HK8.out; omega
                                                         case rel => exact ⟨(wrap64 (x207_8 + 1)), (taad), H', ⟨tacp⟩, ⟨taar⟩, ⟨taas⟩, ⟨tabl⟩, ⟨tabm⟩, ⟨taaq⟩, ⟨taao⟩, ⟨taaa⟩⟩
                                                       · replace c118 := zbj.mpr c118
                                                         subst c118; have H1 : (some false) = some r := by rw [if_neg (show ¬ (false = true) by decide)] at H; exact H
                                                         clear H; have H := H1; clear H1; obtain rfl := zbf H
                                                         have p769 : 0 ≤ (x207_8 : Int) := zas (taab)
                                                         have q769 : x207_8 < (t730.length : Int) := zas (taab)
                                                         obtain ⟨ad769, A769_0, c769_0, e769, hx769_0, hl769_0, hi769_0⟩ := at_L1 (Kd.S_reads' HO_205.out).2.2 x207_8 p769 q769
                                                         cases e769
                                                         obtain ⟨ce769, hce769, hMe769, hcc769⟩ := Kd.S_get HO_205.out [] x207_8 p769 (tafc)
                                                         obtain ⟨ve769_0, rfl, ge769_0⟩ := hMe769
                                                         have hv769_0 := hcc769 0 _ rfl
                                                         rw [Nat.add_zero, show ((Kd.slice 3 (Kd.int .i64))).sz = 1 from rfl, Nat.mul_one] at hv769_0
                                                         replace hv769_0 := zbf (hv769_0.symm.trans hx769_0)
                                                         rw [hv769_0] at ge769_0
                                                         have HL769_0 := zad (show Kd.R (Kd.int .i64) 3 _ _ _ _ (rd_L1 t730 x207_8) from ge769_0)
                                                         clear hv769_0 ge769_0 hcc769 hce769; have HR769_0 := zad hi769_0; have HC769_0 := zad hl769_0; clear hi769_0 hl769_0; replace p769 := eq_true p769
                                                         replace q769 := eq_true q769
                                                         go_wp2_with (first | ((with_reducible refine zbi (f := 22) rfl ?_); refine zbo (some 213) rfl rfl Try.func22 (by kernel_rfl) rfl #[.slice A748_0 (rd_L1 t701 x192_7).length c748_0, .slice A769_0 (rd_L1 t730 x207_8).length c769_0] rfl (taae) ?_; (with_reducible refine (laws_pBelow.calls k8 _ _ (rd_L1 t701 x192_7) _ _ (rd_L1 t730 x207_8) true _ ?side1 ?side2 ?side3 ?side4 A112.out).mono ?_); (case side1 => repeat (first | exact (taao) | (with_reducible refine zal ?_ _) | (with_reducible refine zam ?_ _) | (with_reducible refine zan ?_))); (case side2 => exact HC748_0.out); (case side3 => repeat (first | exact (taax) | (with_reducible refine zal ?_ _) | (with_reducible refine zam ?_ _) | (with_reducible refine zan ?_))); (case side4 => exact HC769_0.out); rintro e w120 ⟨rfl, hb⟩; refine ⟨_, rfl, ?_⟩; have n0_ := zad (Kd.S_below (taar) hb); have n1_ := zad (zbt (taas) hb); have n2_ := zad (Kd.S_below (tabl) hb); have n3_ := zad (Kd.S_below (tabm) hb); have n4_ := zad (zbt (taco) hb); (first | (with_reducible have n5_ := zad (Kd.C_below (zam HR743.out _) hb)) | (with_reducible have n5_ := zad (Kd.C_below HR743.out hb)) | (have n5_ := zad (Kd.C_below (taaq) hb))); (first | (with_reducible have n6_ := zad (Kd.C_below (zam HR748_0.out _) hb)) | (with_reducible have n6_ := zad (Kd.C_below HR748_0.out hb)) | (have n6_ := zad (Kd.C_below (taao) hb))); (first | (with_reducible have n7_ := zad (Kd.C_below (zam HR769_0.out _) hb)) | (with_reducible have n7_ := zad (Kd.C_below HR769_0.out hb)) | (have n7_ := zad (Kd.C_below (taax) hb))); have n8_ := zad (zbh (taaa) hb); clear HO_20 HO_22 HO_190 HO_205 HL769_0 HR743 HR748_0 HR769_0 HB; have HO_20 := n0_; have HO_22 := n1_; have HO_190 := n2_; have HO_205 := n3_; have HL769_0 := n4_; have HR743 := n5_; have HR748_0 := n6_; have HR769_0 := n7_; have HB := n8_; clear n0_ n1_ n2_ n3_ n4_ n5_ n6_ n7_ n8_; (try clear hb); (try clear hb2); (try clear hk); (try clear hi)) | (go_at_call 20; (with_reducible refine (laws_pSame.calls k8 _ _ (rd_L1 t730 x207_8) _ _ (rd_L1 t701 x192_7) false _ ?side1 ?side2 ?side3 ?side4 A114.out).mono ?_); (case side1 => repeat (first | exact (taax) | (with_reducible refine zal ?_ _) | (with_reducible refine zam ?_ _) | (with_reducible refine zan ?_))); (case side2 => exact HC769_0.out); (case side3 => repeat (first | exact (taao) | (with_reducible refine zal ?_ _) | (with_reducible refine zam ?_ _) | (with_reducible refine zan ?_))); (case side4 => exact HC748_0.out); rintro e w' ⟨rfl, ⟨nd, rfl⟩⟩) | (go_at_call 20; (with_reducible refine (laws_pSame.calls k8 _ _ (rd_L1 t730 x207_8) _ _ t734 false _ ?side1 ?side2 ?side3 ?side4 A117.out).mono ?_); (case side1 => repeat (first | exact (taax) | (with_reducible refine zal ?_ _) | (with_reducible refine zam ?_ _) | (with_reducible refine zan ?_))); (case side2 => exact HC769_0.out); (case side3 => repeat (first | exact (zbg HO_22.out).2.2 | (with_reducible refine zal ?_ _) | (with_reducible refine zam ?_ _) | (with_reducible refine zan ?_))); (case side4 => exact (zbg HO_22.out).2.1); rintro e w' ⟨rfl, ⟨nd, rfl⟩⟩))
                                                         go_ret
                                                         exact ⟨taaf, taaa⟩
                                                   · replace c113 := zbj.mpr c113
                                                     subst c113; have H1 : (laws_FnCoversOfLists.l4 k8 t730 t734 (rd_L1 t701 x192_7) t701 (t701.length : Int) x192_7 t730 (t730.length : Int) (wrap64 (x207_8 + 1))) = some r := by rw [if_neg (show ¬ (false = true) by decide)] at H; exact H
                                                     clear H; have H := H1; clear H1; have H' := zad H
                                                     clear H; have p769 : 0 ≤ (x207_8 : Int) := zas (taab)
                                                     have q769 : x207_8 < (t730.length : Int) := zas (taab)
                                                     obtain ⟨ad769, A769_0, c769_0, e769, hx769_0, hl769_0, hi769_0⟩ := at_L1 (Kd.S_reads' HO_205.out).2.2 x207_8 p769 q769
                                                     cases e769
                                                     obtain ⟨ce769, hce769, hMe769, hcc769⟩ := Kd.S_get HO_205.out [] x207_8 p769 (tafc)
                                                     obtain ⟨ve769_0, rfl, ge769_0⟩ := hMe769
                                                     have hv769_0 := hcc769 0 _ rfl
                                                     rw [Nat.add_zero, show ((Kd.slice 3 (Kd.int .i64))).sz = 1 from rfl, Nat.mul_one] at hv769_0
                                                     replace hv769_0 := zbf (hv769_0.symm.trans hx769_0)
                                                     rw [hv769_0] at ge769_0
                                                     have HL769_0 := zad (show Kd.R (Kd.int .i64) 3 _ _ _ _ (rd_L1 t730 x207_8) from ge769_0)
                                                     clear hv769_0 ge769_0 hcc769 hce769; have HR769_0 := zad hi769_0; have HC769_0 := zad hl769_0; clear hi769_0 hl769_0; replace p769 := eq_true p769
                                                     replace q769 := eq_true q769
                                                     go_wp2_with (first | ((with_reducible refine zbi (f := 22) rfl ?_); refine zbo (some 213) rfl rfl Try.func22 (by kernel_rfl) rfl #[.slice A748_0 (rd_L1 t701 x192_7).length c748_0, .slice A769_0 (rd_L1 t730 x207_8).length c769_0] rfl (taae) ?_; (with_reducible refine (laws_pBelow.calls k8 _ _ (rd_L1 t701 x192_7) _ _ (rd_L1 t730 x207_8) false _ ?side1 ?side2 ?side3 ?side4 A112.out).mono ?_); (case side1 => exact taga); (case side2 => exact HC748_0.out); (case side3 => repeat (first | exact (taax) | (with_reducible refine zal ?_ _) | (with_reducible refine zam ?_ _) | (with_reducible refine zan ?_))); (case side4 => exact HC769_0.out); rintro e w121 ⟨rfl, hb⟩; refine ⟨_, rfl, ?_⟩; have n0_ := zad (Kd.S_below (taar) hb); have n1_ := zad (zbt (taas) hb); have n2_ := zad (Kd.S_below (tabl) hb); have n3_ := zad (Kd.S_below (tabm) hb); have n4_ := zad (zbt (taco) hb); (first | (with_reducible have n5_ := zad (Kd.C_below (zam HR743.out _) hb)) | (with_reducible have n5_ := zad (Kd.C_below HR743.out hb)) | (have n5_ := zad (Kd.C_below (taaq) hb))); (first | (with_reducible have n6_ := zad (Kd.C_below (zam HR748_0.out _) hb)) | (with_reducible have n6_ := zad (Kd.C_below HR748_0.out hb)) | (have n6_ := zad (Kd.C_below (taao) hb))); (first | (with_reducible have n7_ := zad (Kd.C_below (zam HR769_0.out _) hb)) | (with_reducible have n7_ := zad (Kd.C_below HR769_0.out hb)) | (have n7_ := zad (Kd.C_below (taax) hb))); have n8_ := zad (zbh (taaa) hb); clear HO_20 HO_22 HO_190 HO_205 HL769_0 HR743 HR748_0 HR769_0 HB; have HO_20 := n0_; have HO_22 := n1_; have HO_190 := n2_; have HO_205 := n3_; have HL769_0 := n4_; have HR743 := n5_; have HR748_0 := n6_; have HR769_0 := n7_; have HB := n8_; clear n0_ n1_ n2_ n3_ n4_ n5_ n6_ n7_ n8_; (try clear hb); (try clear hb2); (try clear hk); (try clear hi)))
                                                     go_roundg k8
                                                     case measure => have := HJ7.out; have := HJ20.out; have := HK3.out; have := HJ63.out; have := HJ69.out; have := HK6.out; have := HK7.out; have := HK8.out; omega
                                                     case rel => exact ⟨(wrap64 (x207_8 + 1)), (taad), H', ⟨tacp⟩, ⟨taar⟩, ⟨taas⟩, ⟨tabl⟩, ⟨tabm⟩, ⟨taaq⟩, ⟨taao⟩, ⟨taaa⟩⟩
                                                 · rw [if_neg c111] at H
                                                   exact absurd H (taac)
                                               · rw [if_neg c110] at H
                                                 exact absurd H (taac)
                                             · rw [if_neg c109] at H
                                               have c109b0 : decide (x207_8 < (t730.length : Int)) = false := zbk c109
                                               clear c109; have H' := zad H
                                               clear H; go_wp2
                                               go_roundg k8
                                               case measure => have := HJ7.out; have := HJ20.out; have := HK3.out; have := HJ63.out; have := HJ69.out; have := HK6.out; have := HK7.out; have := HK8.out; omega
                                               case rel => exact ⟨(wrap64 (x192_7 + 1)), (taad), H', ⟨tacp⟩, ⟨taar⟩, ⟨taas⟩, ⟨by (with_reducible repeat (first | apply Kd.S_alloc | apply Kd.S_drewN | apply Kd.S_drew)); exact Kd.S_mono HO_190.out (fun _ hk => ⟨hk.1, hk.2.1⟩)⟩, ⟨taaq⟩, ⟨taaa⟩⟩
                                       · replace c104 := zbj.mpr c104
                                         subst c104; have H1 : (some false) = some r := by rw [if_neg (show ¬ (false = true) by decide)] at H; exact H
                                         clear H; have H := H1; clear H1; obtain rfl := zbf H
                                         have p748 : 0 ≤ (x192_7 : Int) := zas (taab)
                                         have q748 : x192_7 < (t701.length : Int) := zas (taab)
                                         obtain ⟨ad748, A748_0, c748_0, e748, hx748_0, hl748_0, hi748_0⟩ := at_L1 (Kd.S_reads' HO_190.out).2.2 x192_7 p748 q748
                                         cases e748
                                         obtain ⟨ce748, hce748, hMe748, hcc748⟩ := Kd.S_get HO_190.out [] x192_7 p748 (taff)
                                         obtain ⟨ve748_0, rfl, ge748_0⟩ := hMe748
                                         have hv748_0 := hcc748 0 _ rfl
                                         rw [Nat.add_zero, show ((Kd.slice 3 (Kd.int .i64))).sz = 1 from rfl, Nat.mul_one] at hv748_0
                                         replace hv748_0 := zbf (hv748_0.symm.trans hx748_0)
                                         rw [hv748_0] at ge748_0
                                         have HL748_0 := zad (show Kd.R (Kd.int .i64) 3 _ _ _ _ (rd_L1 t701 x192_7) from ge748_0)
                                         clear hv748_0 ge748_0 hcc748 hce748; have HR748_0 := zad hi748_0; have HC748_0 := zad hl748_0; clear hi748_0 hl748_0; replace p748 := eq_true p748
                                         replace q748 := eq_true q748
                                         go_wp2_with (first | ((with_reducible refine zbi (f := 30) rfl ?_); refine zbo (some 198) rfl rfl Try.func30 (by kernel_rfl) rfl #[.slice Ao82 t730.length co82, .slice A748_0 (rd_L1 t701 x192_7).length c748_0] rfl (taae) ?_; (with_reducible refine (laws_pHasRow.calls k7 _ _ t730 _ _ (rd_L1 t701 x192_7) false _ ?side1 ?side2 ?side3 ?side4 A103.out).mono ?_); (case side1 => repeat (first | exact (Kd.S_reads' HO_20.out).2.2 | (with_reducible refine zal ?_ _) | (with_reducible refine zam ?_ _) | (with_reducible refine zan ?_))); (case side2 => exact (Kd.S_reads' HO_20.out).2.1); (case side3 => exact taga); (case side4 => exact HC748_0.out); rintro e w' ⟨rfl, ⟨nd, rfl⟩⟩; refine ⟨_, rfl, ?_⟩))
                                         go_ret
                                         exact ⟨taaf, taaa⟩
                                     · rw [if_neg c102] at H
                                       exact absurd H (taac)
                                   · rw [if_neg c101] at H
                                     exact absurd H (taac)
                                 · rw [if_neg c100] at H
                                   have c100b0 : decide (x192_7 < (t701.length : Int)) = false := zbk c100
                                   clear c100; obtain rfl := zbf H
                                   go_wp2
                                   go_ret
                                   exact ⟨taaf, taaa⟩
                         · rw [if_neg c80] at H
                           exact absurd H (taac)
               · replace c62 := zbj.mpr c62
                 subst c62; have H1 : (some true) = some r := by rw [if_neg (show ¬ (false = true) by decide)] at H; exact H
                 clear H; have H := H1; clear H1; obtain rfl := zbf H
                 go_wp2
                 go_ret
                 exact ⟨taaf, taaa⟩
def laws_FnCoversOfLists.Pure : Prop := ∀ (l0 : List Int) (l1 : List Int), l0.length ≤ maxLen → l0.length * 1 ≤ 140737488351232 → (∀ x ∈ l0, (Lit.int .u8 x).wf = true) → l1.length ≤ maxLen → l1.length * 1 ≤ 140737488351232 → (∀ x ∈ l1, (Lit.int .u8 x).wf = true) → ∃ k, laws_FnCoversOfLists.f k l0 l1 = some true
theorem laws_FnCoversOfLists.walk (P : laws_FnCoversOfLists.Pure) (a0 : Option Addr) (len0 cap0 : Nat) (z0 : List Int) (a1 : Option Addr) (len1 cap1 : Nat) (z1 : List Int) (w : World) (w0 : (a0 = none ∧ len0 = 0 ∧ cap0 = 0 ∧ z0 = []) ∨ ∃ x, a0 = some x ∧ len0 ≤ cap0 ∧ cap0 ≤ maxLen ∧ z0.length = cap0 ∧ (∀ i, i < z0.length → w.cell? (x.add i) = some (.int .u8 (z0.getD i 0))) ∧ ∀ n ∈ z0, (Lit.int .u8 n).wf = true) (y0 : len0 * 1 ≤ 140737488351232) (w1 : (a1 = none ∧ len1 = 0 ∧ cap1 = 0 ∧ z1 = []) ∨ ∃ x, a1 = some x ∧ len1 ≤ cap1 ∧ cap1 ≤ maxLen ∧ z1.length = cap1 ∧ (∀ i, i < z1.length → w.cell? (x.add i) = some (.int .u8 (z1.getD i 0))) ∧ ∀ n ∈ z1, (Lit.int .u8 n).wf = true) (y1 : len1 * 1 ≤ 140737488351232) :
 Calls Try.prog 5 #[.slice a0 len0 cap0, .slice a1 len1 cap1] w fun e w' => e = .returned (.bool true) ∧ Below w.heap.size w w' := by
 obtain ⟨l0, rfl, hr0, hm0, hw0, hc0⟩ := ReadsInt.ofRowC w0
 obtain ⟨l1, rfl, hr1, hm1, hw1, hc1⟩ := ReadsInt.ofRowC w1
 obtain ⟨k, h⟩ := P l0 l1 hm0 y0 hw0 hm1 y1 hw1
 refine (laws_FnCoversOfLists.calls k _ _ l0 _ _ l1 true w (Kd.C_of_reads (d := (0 : Int)) (h1 := fun _ => rfl) hr0) hc0 (Kd.C_of_reads (d := (0 : Int)) (h1 := fun _ => rfl) hr1) hc1 h).mono ?_
 rintro e w' ⟨rfl, hd⟩
 exact ⟨rfl, hd⟩
theorem l1Least_eq (a b : Int) : spec_l1Least.f a b = some (min a b) := by
 unfold spec_l1Least.f
 split <;> (congr 1; omega)
def allGo (F : Int → List (List Int)) (n s : Int) : Nat → List (List Int)
 | 0 => if 0 * n ≥ s then F 0 else []
 | t + 1 => if ((t + 1 : Nat) : Int) * n ≥ s then F ((t + 1 : Nat) : Int) ++ allGo F n s t else []
def allL : Nat → Int → Int → List (List Int)
 | 0, s, _ => if s = 0 then [[]] else []
 | n + 1, s, m => allGo (fun f => (allL n (s - f) f).map (f :: ·)) ((n + 1 : Nat) : Int) s (min s m).toNat
theorem allL_len : ∀ (n : Nat) (s m : Int) (x : List Int), x ∈ allL n s m → x.length = n
 | 0, s, m, x, h => by
  unfold allL at h
  split at h
  · simp at h
    subst h; rfl
  · simp at h
 | n + 1, s, m, x, h => by
  have key : ∀ (t : Nat), x ∈ allGo (fun f => (allL n (s - f) f).map (f :: ·)) ((n + 1 : Nat) : Int) s t → x.length = n + 1 := by
   intro t
   induction t with
   | zero =>
    intro h
    unfold allGo at h
    split at h
    · obtain ⟨y, hy, rfl⟩ := List.mem_map.1 h
      rw [List.length_cons, allL_len n _ _ y hy]
    · simp at h
   | succ t ih =>
    intro h
    unfold allGo at h
    split at h
    · rcases List.mem_append.1 h with h | h
      · obtain ⟨y, hy, rfl⟩ := List.mem_map.1 h
        rw [List.length_cons, allL_len n _ _ y hy]
      · exact ih h
    · simp at h
  unfold allL at h
  exact key _ h
theorem allL_count : ∀ (n : Nat) (s m : Int), s ≤ 30 → 0 ≤ s → (allL n s m).length ≤ 31 ^ n
 | 0, s, m, _, _ => by
  unfold allL
  split <;> simp
 | n + 1, s, m, hs, h0 => by
  have key : ∀ (t : Nat), (t : Int) ≤ s → (allGo (fun f => (allL n (s - f) f).map (f :: ·)) ((n + 1 : Nat) : Int) s t).length ≤ (t + 1) * 31 ^ n := by
   intro t
   induction t with
   | zero =>
    intro ht
    unfold allGo
    split
    · rw [List.length_map]
      have := allL_count n (s - 0) 0 (by omega) (by omega)
      omega
    · simp
   | succ t ih =>
    intro ht
    unfold allGo
    split
    · rw [List.length_append, List.length_map, Nat.succ_mul]
      have := ih (by omega)
      have := allL_count n (s - ((t + 1 : Nat) : Int)) ((t + 1 : Nat) : Int) (by omega) (by omega)
      omega
    · simp
  unfold allL
  have h1 := key (min s m).toNat (by omega)
  have h2 : ((min s m).toNat + 1) * 31 ^ n ≤ 31 * 31 ^ n := Nat.mul_le_mul_right _ (by omega)
  rw [Nat.pow_succ]
  omega
theorem pow31 {n : Nat} (h : n ≤ 8) : 31 ^ n ≤ 31 ^ 8 := Nat.pow_le_pow_right (by decide) h
theorem allL_bd {n : Nat} (hn : n ≤ 8) {s m : Int} (hs : s ≤ 30) (h0 : 0 ≤ s) : (allL n s m).length ≤ 852891037441 := by
 have h1 := allL_count n s m hs h0
 have h2 := pow31 hn; have h3 : 31 ^ 8 = 852891037441 := by decide
 omega
theorem rdL {xs : List (List Int)} {i : Nat} (h : i < xs.length) : rd_L1 xs (i : Int) = xs[i] := by
 unfold rd_L1
 rw [Int.toNat_natCast, List.getD_eq_getElem?_getD, List.getElem?_eq_getElem h]
 rfl
theorem specAll_l1 (n : Nat) (s f : Int) (rs : List (List Int)) (hr : ∀ x ∈ rs, x.length ≤ 8) (hrl : rs.length ≤ 1000000000000) (r : List (List Int)) : ∀ (d i : Nat) (acc : List (List Int)), i + d = rs.length → acc.length + d ≤ 2000000000000 → Ev (fun k => spec_liAll.l0 k (n : Int) s (acc ++ (rs.drop i).map (f :: ·)) (wrap64 (f - 1))) r → Ev (fun k => spec_liAll.l1 k (n : Int) s acc f rs (rs.length : Int) (i : Int)) r
 | 0, i, acc, h, hb, hR => by
  refine Ev.succ ?_
  simp only [spec_liAll.l1, if_neg (show ¬ (i : Int) < (rs.length : Int) by omega)]
  rw [List.drop_eq_nil_of_le (by omega), zav, List.append_nil] at hR
  exact hR
 | d + 1, i, acc, h, hb, hR => by
  have hi : i < rs.length := by omega
  have := hr _ (List.getElem_mem hi)
  refine Ev.succ ?_
  simp only [spec_liAll.l1, if_pos (show (i : Int) < (rs.length : Int) by omega), if_pos (show (0 : Int) ≤ (i : Int) by omega), zbe, rdL hi, if_pos (show ([f] : List Int).length + (rs[i]).length < 17592186044416 by rw [List.length_singleton]; omega), if_pos (show acc.length < 5864062014805 by omega), wsucc hi (by omega)]
  refine specAll_l1 n s f rs hr hrl r d (i + 1) _ (by omega) (tacq) ?_
  rw [List.drop_eq_getElem_cons hi, zau] at hR
  rw [List.append_assoc]
  exact hR
theorem specAll_ev : ∀ (n : Nat), n ≤ 8 → ∀ (s m : Int), s ≤ 30 → 0 ≤ s → 0 ≤ m → Ev (fun k => spec_liAll.f k (n : Int) s m) (allL n s m)
 | 0, _, s, m, hs, h0, hm => by
  refine Ev.succ ?_
  simp only [spec_liAll.f, if_pos (show ((0 : Nat) : Int) = 0 from rfl), allL]
  exact Ev.ite (fun _ => Ev.now _) (fun _ => Ev.now _)
 | n + 1, hn, s, m, hs, h0, hm => by
  have key : ∀ (t : Nat), (t : Int) ≤ 30 → (t : Int) ≤ s → ∀ acc : List (List Int), acc.length + (t + 1) * 31 ^ n ≤ 900000000000 → Ev (fun k => spec_liAll.l0 k ((n + 1 : Nat) : Int) s acc (t : Int)) (acc ++ allGo (fun f => (allL n (s - f) f).map (f :: ·)) ((n + 1 : Nat) : Int) s t) := by
   have h31 : 31 ^ n ≤ 852891037441 := by
    have h2 := pow31 (show n ≤ 8 by omega)
    have h3 : 31 ^ 8 = 852891037441 := by decide
    omega
   have step : ∀ (t : Nat), (t : Int) ≤ 30 → (t : Int) ≤ s → ∀ acc r, acc.length + (t + 1) * 31 ^ n ≤ 900000000000 → (t : Int) * ((n + 1 : Nat) : Int) ≥ s → Ev (fun k => spec_liAll.l0 k ((n + 1 : Nat) : Int) s (acc ++ (allL n (s - t) t).map ((t : Int) :: ·)) ((t : Int) - 1)) r → Ev (fun k => spec_liAll.l0 k ((n + 1 : Nat) : Int) s acc (t : Int)) r := by
    intro t ht hts acc r hb hc hR
    have hw : wrap64 ((t : Int) * ((n + 1 : Nat) : Int)) = (t : Int) * ((n + 1 : Nat) : Int) := by
     have h1 : (t : Int) * ((n + 1 : Nat) : Int) ≤ 30 * 8 := Int.mul_le_mul ht (by omega) (by omega) (by omega)
     have h2 : 0 ≤ (t : Int) * ((n + 1 : Nat) : Int) := Int.mul_nonneg (by omega) (by omega)
     exact w64 (by omega) (by omega)
    have hcnt := allL_count n (s - t) t (by omega) (by omega)
    rw [Nat.add_mul] at hb
    refine Ev.succ ?_
    simp only [spec_liAll.l0, hw, if_pos hc, zba (show (t : Int) ≥ 0 by omega)]
    refine Ev.succ ?_
    simp only [spec_liAll.j1, if_true, w64 (x := ((n + 1 : Nat) : Int) - 1) (by omega) (by omega), w64 (x := s - (t : Int)) (by omega) (by omega)]
    rw [show ((n + 1 : Nat) : Int) - 1 = (n : Int) by omega]
    refine Ev.bind (specAll_ev n (by omega) (s - t) t (by omega) (by omega) (by omega)) ?_
    have := specAll_l1 (n + 1) s t (allL n (s - t) t) (fun x hx => by have := allL_len n _ _ x hx; omega) (by omega) r (allL n (s - t) t).length 0 acc (by omega) (by omega)
    rw [List.drop_zero, w64 (x := (t : Int) - 1) (by omega) (by omega)] at this
    exact this hR
   have stop : ∀ (t : Int) acc, 0 ≤ t → t ≤ 30 → ¬ t * ((n + 1 : Nat) : Int) ≥ s → Ev (fun k => spec_liAll.l0 k ((n + 1 : Nat) : Int) s acc t) acc := by
    intro t acc h1 h2 hc
    have hw : wrap64 (t * ((n + 1 : Nat) : Int)) = t * ((n + 1 : Nat) : Int) := by
     have h3 : t * ((n + 1 : Nat) : Int) ≤ 30 * 8 := Int.mul_le_mul h2 (by omega) (by omega) (by omega)
     have h4 : 0 ≤ t * ((n + 1 : Nat) : Int) := Int.mul_nonneg h1 (by omega)
     exact w64 (by omega) (by omega)
    refine Ev.succ ?_
    simp only [spec_liAll.l0, hw, if_neg hc]
    refine Ev.succ ?_
    simp only [spec_liAll.j1, zbn, if_false]
    exact Ev.now _
   have low : ∀ acc, Ev (fun k => spec_liAll.l0 k ((n + 1 : Nat) : Int) s acc (-1)) acc := by
    intro acc
    have hw : wrap64 (-1 * ((n + 1 : Nat) : Int)) = -1 * ((n + 1 : Nat) : Int) := w64 (by omega) (by omega)
    refine Ev.succ ?_
    simp only [spec_liAll.l0, hw, if_neg (show ¬ -1 * ((n + 1 : Nat) : Int) ≥ s by omega)]
    refine Ev.succ ?_
    simp only [spec_liAll.j1, zbn, if_false]
    exact Ev.now _
   intro t
   induction t with
   | zero =>
    intro h1 h2 acc hb
    unfold allGo
    by_cases hc : 0 * ((n + 1 : Nat) : Int) ≥ s
    · rw [if_pos hc]
      exact step 0 h1 h2 acc _ hb hc (low _)
    · rw [if_neg hc, List.append_nil]
      exact stop 0 acc (by omega) (by omega) hc
   | succ t ih =>
    intro h1 h2 acc hb
    unfold allGo
    by_cases hc : ((t + 1 : Nat) : Int) * ((n + 1 : Nat) : Int) ≥ s
    · rw [if_pos hc, ← List.append_assoc]
      refine step (t + 1) h1 h2 acc _ hb hc ?_
      rw [show ((t + 1 : Nat) : Int) - 1 = (t : Int) by omega]
      have hcnt := allL_count n (s - ((t + 1 : Nat) : Int)) ((t + 1 : Nat) : Int) (by omega) (by omega)
      refine ih (by omega) (by omega) _ ?_
      rw [List.length_append, List.length_map]
      have e : (t + 1 + 1) * 31 ^ n = (t + 1) * 31 ^ n + 31 ^ n := by rw [Nat.add_mul, Nat.one_mul]
      omega
    · rw [if_neg hc, List.append_nil]
      exact stop _ acc (by omega) h1 hc
  refine Ev.succ ?_
  simp only [spec_liAll.f, if_neg (show ¬ ((n + 1 : Nat) : Int) = 0 by omega), l1Least_eq, zbe, allL]
  have hb : ((min s m).toNat + 1) * 31 ^ n ≤ 31 * 31 ^ n := Nat.mul_le_mul_right _ (by omega)
  have h2 := pow31 (show n + 1 ≤ 8 from hn)
  rw [Nat.pow_succ] at h2
  have h3 : 31 ^ 8 = 852891037441 := by decide
  have := key (min s m).toNat (by omega) (by omega) [] (by rw [List.length_nil]; omega)
  rw [List.nil_append, show (((min s m).toNat : Nat) : Int) = min s m by omega] at this
  exact this
theorem mn_eq (a b : Int) : mn a b = min a b := by unfold mn; omega
theorem implAll_l1 (n : Nat) (s f : Int) (rs : List (List Int)) (hr : ∀ x ∈ rs, x.length ≤ 8) (hrl : rs.length ≤ 1000000000000) (r : List (List Int)) : ∀ (d i : Nat) (acc : List (List Int)), i + d = rs.length → acc.length + d ≤ 2000000000000 → Ev (fun k => impl_rankings.l0 k (n : Int) s (acc ++ (rs.drop i).map (f :: ·)) (wrap64 (f - 1))) r → Ev (fun k => impl_rankings.l1 k (n : Int) s acc f rs (rs.length : Int) (i : Int)) r
 | 0, i, acc, h, hb, hR => by
  refine Ev.succ ?_
  simp only [impl_rankings.l1, if_neg (show ¬ (i : Int) < (rs.length : Int) by omega)]
  rw [List.drop_eq_nil_of_le (by omega), zav, List.append_nil] at hR
  exact hR
 | d + 1, i, acc, h, hb, hR => by
  have hi : i < rs.length := by omega
  have := hr _ (List.getElem_mem hi)
  refine Ev.succ ?_
  simp only [impl_rankings.l1, if_pos (show (i : Int) < (rs.length : Int) by omega), if_pos (show (0 : Int) ≤ (i : Int) by omega), zbe, rdL hi, if_pos (show ([f] : List Int).length + (rs[i]).length < 17592186044416 by rw [List.length_singleton]; omega), if_pos (show acc.length < 5864062014805 by omega), wsucc hi (by omega)]
  refine implAll_l1 n s f rs hr hrl r d (i + 1) _ (by omega) (tacq) ?_
  rw [List.drop_eq_getElem_cons hi, zau] at hR
  rw [List.append_assoc]
  exact hR
theorem implAll_ev : ∀ (n : Nat), n ≤ 8 → ∀ (s m : Int), s ≤ 30 → 0 ≤ s → 0 ≤ m → Ev (fun k => impl_rankings.f k (n : Int) s m) (allL n s m)
 | 0, _, s, m, hs, h0, hm => by
  refine Ev.succ ?_
  simp only [impl_rankings.f, if_pos (show ((0 : Nat) : Int) = 0 from rfl), allL]
  exact Ev.ite (fun _ => Ev.now _) (fun _ => Ev.now _)
 | n + 1, hn, s, m, hs, h0, hm => by
  have key : ∀ (t : Nat), (t : Int) ≤ 30 → (t : Int) ≤ s → ∀ acc : List (List Int), acc.length + (t + 1) * 31 ^ n ≤ 900000000000 → Ev (fun k => impl_rankings.l0 k ((n + 1 : Nat) : Int) s acc (t : Int)) (acc ++ allGo (fun f => (allL n (s - f) f).map (f :: ·)) ((n + 1 : Nat) : Int) s t) := by
   have h31 : 31 ^ n ≤ 852891037441 := by
    have h2 := pow31 (show n ≤ 8 by omega)
    have h3 : 31 ^ 8 = 852891037441 := by decide
    omega
   have step : ∀ (t : Nat), (t : Int) ≤ 30 → (t : Int) ≤ s → ∀ acc r, acc.length + (t + 1) * 31 ^ n ≤ 900000000000 → (t : Int) * ((n + 1 : Nat) : Int) ≥ s → Ev (fun k => impl_rankings.l0 k ((n + 1 : Nat) : Int) s (acc ++ (allL n (s - t) t).map ((t : Int) :: ·)) ((t : Int) - 1)) r → Ev (fun k => impl_rankings.l0 k ((n + 1 : Nat) : Int) s acc (t : Int)) r := by
    intro t ht hts acc r hb hc hR
    have hw : wrap64 ((t : Int) * ((n + 1 : Nat) : Int)) = (t : Int) * ((n + 1 : Nat) : Int) := by
     have h1 : (t : Int) * ((n + 1 : Nat) : Int) ≤ 30 * 8 := Int.mul_le_mul ht (by omega) (by omega) (by omega)
     have h2 : 0 ≤ (t : Int) * ((n + 1 : Nat) : Int) := Int.mul_nonneg (by omega) (by omega)
     exact w64 (by omega) (by omega)
    have hcnt := allL_count n (s - t) t (by omega) (by omega)
    rw [Nat.add_mul] at hb
    refine Ev.succ ?_
    simp only [impl_rankings.l0, hw, if_pos (show (t : Int) ≥ 0 by omega), zba hc]
    refine Ev.succ ?_
    simp only [impl_rankings.j1, if_true, w64 (x := ((n + 1 : Nat) : Int) - 1) (by omega) (by omega), w64 (x := s - (t : Int)) (by omega) (by omega)]
    rw [show ((n + 1 : Nat) : Int) - 1 = (n : Int) by omega]
    refine Ev.bind (implAll_ev n (by omega) (s - t) t (by omega) (by omega) (by omega)) ?_
    have := implAll_l1 (n + 1) s t (allL n (s - t) t) (fun x hx => by have := allL_len n _ _ x hx; omega) (by omega) r (allL n (s - t) t).length 0 acc (by omega) (by omega)
    rw [List.drop_zero, w64 (x := (t : Int) - 1) (by omega) (by omega)] at this
    exact this hR
   have stop : ∀ (t : Int) acc, 0 ≤ t → t ≤ 30 → ¬ t * ((n + 1 : Nat) : Int) ≥ s → Ev (fun k => impl_rankings.l0 k ((n + 1 : Nat) : Int) s acc t) acc := by
    intro t acc h1 h2 hc
    have hw : wrap64 (t * ((n + 1 : Nat) : Int)) = t * ((n + 1 : Nat) : Int) := by
     have h3 : t * ((n + 1 : Nat) : Int) ≤ 30 * 8 := Int.mul_le_mul h2 (by omega) (by omega) (by omega)
     have h4 : 0 ≤ t * ((n + 1 : Nat) : Int) := Int.mul_nonneg h1 (by omega)
     exact w64 (by omega) (by omega)
    refine Ev.succ ?_
    simp only [impl_rankings.l0, hw, if_pos (show t ≥ 0 from h1), zbk hc]
    refine Ev.succ ?_
    simp only [impl_rankings.j1, zbn, if_false]
    exact Ev.now _
   have low : ∀ acc, Ev (fun k => impl_rankings.l0 k ((n + 1 : Nat) : Int) s acc (-1)) acc := by
    intro acc
    refine Ev.succ ?_
    simp only [impl_rankings.l0, if_neg (show ¬ (-1 : Int) ≥ 0 by omega)]
    refine Ev.succ ?_
    simp only [impl_rankings.j1, zbn, if_false]
    exact Ev.now _
   intro t
   induction t with
   | zero =>
    intro h1 h2 acc hb
    unfold allGo
    by_cases hc : 0 * ((n + 1 : Nat) : Int) ≥ s
    · rw [if_pos hc]
      exact step 0 h1 h2 acc _ hb hc (low _)
    · rw [if_neg hc, List.append_nil]
      exact stop 0 acc (by omega) (by omega) hc
   | succ t ih =>
    intro h1 h2 acc hb
    unfold allGo
    by_cases hc : ((t + 1 : Nat) : Int) * ((n + 1 : Nat) : Int) ≥ s
    · rw [if_pos hc, ← List.append_assoc]
      refine step (t + 1) h1 h2 acc _ hb hc ?_
      rw [show ((t + 1 : Nat) : Int) - 1 = (t : Int) by omega]
      have hcnt := allL_count n (s - ((t + 1 : Nat) : Int)) ((t + 1 : Nat) : Int) (by omega) (by omega)
      refine ih (by omega) (by omega) _ ?_
      rw [List.length_append, List.length_map]
      have e : (t + 1 + 1) * 31 ^ n = (t + 1) * 31 ^ n + 31 ^ n := by rw [Nat.add_mul, Nat.one_mul]
      omega
    · rw [if_neg hc, List.append_nil]
      exact stop _ acc (by omega) h1 hc
  refine Ev.succ ?_
  simp only [impl_rankings.f, if_neg (show ¬ ((n + 1 : Nat) : Int) = 0 by omega), mn_eq, allL]
  have hb : ((min s m).toNat + 1) * 31 ^ n ≤ 31 * 31 ^ n := Nat.mul_le_mul_right _ (by omega)
  have h2 := pow31 (show n + 1 ≤ 8 from hn)
  rw [Nat.pow_succ] at h2
  have h3 : 31 ^ 8 = 852891037441 := by decide
  have := key (min s m).toNat (by omega) (by omega) [] (by rw [List.length_nil]; omega)
  rw [List.nil_append, show (((min s m).toNat : Nat) : Int) = min s m by omega] at this
  exact this
def goodL (xs : List Int) : Bool := if (1 : Int) ≤ xs.length ∧ (xs.length : Int) ≤ 8 then inR 0 60 xs else false
theorem goodL_iff (xs : List Int) : goodL xs = true ↔ 1 ≤ xs.length ∧ xs.length ≤ 8 ∧ ∀ x ∈ xs, 0 ≤ x ∧ x ≤ 60 := by
 unfold goodL inR
 by_cases h : (1 : Int) ≤ xs.length ∧ (xs.length : Int) ≤ 8
 · rw [if_pos h]
   simp only [List.all_eq_true, decide_eq_true_eq]
   exact ⟨fun h' => ⟨by omega, by omega, h'⟩, fun h' => h'.2.2⟩
 · rw [if_neg h]
   constructor
   · intro h'
     cases h'
   · intro h'
     omega
theorem liGood_ev (xs : List Int) (hx : xs.length ≤ 9223372036854775807) : Ev (fun k => spec_liGood.f k xs) (goodL xs) := by
 unfold spec_liGood.f goodL
 simp only [l1In_eq, zbe, decide_eq_true_eq]
 exact Ev.ite (fun _ => Ev.bind (l1All_ev xs 0 60 hx) (Ev.now _)) (fun _ => Ev.now _)
theorem implIsList_ev (xs : List Int) (hx : xs.length ≤ 9223372036854775807) : Ev (fun k => impl_IsList.f k xs) (goodL xs) := by
 unfold impl_IsList.f goodL
 simp only [within_eq, zbe, decide_eq_true_eq]
 exact Ev.ite (fun _ => Ev.bind (allWithin_ev xs 0 60 hx) (Ev.now _)) (fun _ => Ev.now _)
def cardB (n : Nat) (S : Nat → Bool) : Nat := (List.range n).countP S
theorem countP_sub {α : Type} (A B D : α → Bool) : ∀ l : List α, (∀ x ∈ l, A x = true → B x = true ∨ D x = true) → l.countP A ≤ l.countP B + l.countP D
 | [], _ => by simp
 | x :: l, h => by
  have ih := countP_sub A B D l (fun y hy => h y (List.mem_cons_of_mem _ hy))
  have hx := h x List.mem_cons_self
  rw [List.countP_cons, List.countP_cons, List.countP_cons]
  cases hA : A x with
  | false => simp only [zbn, if_false]; omega
  | true =>
   rcases hx hA with hB | hD
   · rw [hB]; simp only [if_true]; omega
   · rw [hD]; simp only [if_true]; omega
theorem countP_two {α : Type} (A B D : α → Bool) : ∀ l : List α, (∀ x ∈ l, B x = true → A x = true ∧ D x = false) → (∀ x ∈ l, D x = true → A x = true) → l.countP B + l.countP D ≤ l.countP A
 | [], _, _ => by simp
 | x :: l, h, k => by
  have ih := countP_two A B D l (fun y hy => h y (List.mem_cons_of_mem _ hy)) (fun y hy => k y (List.mem_cons_of_mem _ hy))
  have hx := h x List.mem_cons_self
  have kx := k x List.mem_cons_self
  rw [List.countP_cons, List.countP_cons, List.countP_cons]
  cases hB : B x with
  | true =>
   obtain ⟨h1, h2⟩ := hx hB
   rw [h1, h2]
   simp only [if_true, zbn, if_false]
   omega
  | false =>
   cases hD : D x with
   | true =>
    rw [kx hD]
    simp only [if_true, zbn, if_false]
    omega
   | false =>
    simp only [zbn, if_false]
    omega
theorem cardB_pos {n : Nat} {S : Nat → Bool} {i : Nat} (hi : i < n) (h : S i = true) : 0 < cardB n S := by
 unfold cardB
 rw [List.countP_pos_iff]
 exact ⟨i, List.mem_range.2 hi, h⟩
theorem cardB_ex {n : Nat} {S : Nat → Bool} (h : 0 < cardB n S) : ∃ i, i < n ∧ S i = true := by
 unfold cardB at h
 rw [List.countP_pos_iff] at h
 obtain ⟨i, hi, hs⟩ := h
 exact ⟨i, List.mem_range.1 hi, hs⟩
theorem cardB_one (n c : Nat) : cardB n (fun j => j == c) ≤ 1 := by
 have h := List.nodup_iff_count.1 (List.nodup_range (n := n)) c
 exact h
theorem cardB_le {n : Nat} {A B : Nat → Bool} (h : ∀ i, i < n → A i = true → B i = true) : cardB n A ≤ cardB n B := List.countP_mono_left fun i hi ha => h i (List.mem_range.1 hi) ha
def nbr (n : Nat) (P : Nat → Nat → Bool) (C S : Nat → Bool) (j : Nat) : Bool := C j && (List.range n).any fun i => S i && P i j
theorem nbr_iff {n : Nat} {P : Nat → Nat → Bool} {C S : Nat → Bool} {j : Nat} : nbr n P C S j = true ↔ C j = true ∧ ∃ i, i < n ∧ S i = true ∧ P i j = true := by
 unfold nbr
 simp only [Bool.and_eq_true, List.any_eq_true, List.mem_range]
theorem hall (n : Nat) (P : Nat → Nat → Bool) : ∀ (m : Nat) (R C : Nat → Bool), cardB n R ≤ m → (∀ S : Nat → Bool, (∀ i, i < n → S i = true → R i = true) → cardB n S ≤ cardB n (nbr n P C S)) → ∃ f : Nat → Nat, (∀ i, i < n → R i = true → f i < n ∧ C (f i) = true ∧ P i (f i) = true) ∧ ∀ i j, i < n → j < n → R i = true → R j = true → f i = f j → i = j
 | 0, R, C, hR, _ => by
  have hno : ∀ i, i < n → R i = true → False := fun i hi h => by have := cardB_pos hi h; omega
  exact ⟨id, fun i hi h => (hno i hi h).elim, fun i j hi _ h _ _ => (hno i hi h).elim⟩
 | m + 1, R, C, hR, hH => by
  by_cases hex : 0 < cardB n R
  · obtain ⟨r, hr, hRr⟩ := cardB_ex hex
    by_cases hB : ∃ S : Nat → Bool, (∀ i, i < n → S i = true → R i = true) ∧ 0 < cardB n S ∧ cardB n S < cardB n R ∧ cardB n (nbr n P C S) ≤ cardB n S
    · obtain ⟨S, hS, h0, h1, h2⟩ := hB
      obtain ⟨f1, a1, b1⟩ := hall n P m S C (by omega) (fun T hT => hH T (fun i hi h => hS i hi (hT i hi h)))
      have hsplit : cardB n (fun i => R i && !S i) + cardB n S ≤ cardB n R := countP_two R (fun i => R i && !S i) S (List.range n) (fun i _ h => taey) (fun i hi h => hS i (List.mem_range.1 hi) h)
      obtain ⟨f2, a2, b2⟩ := hall n P m (fun i => R i && !S i) (fun j => C j && !nbr n P C S j) (by omega) (fun T hT => by
       have hT' : ∀ i, i < n → T i = true → R i = true ∧ S i = false := fun i hi h => by have := hT i hi h; simp only [Bool.and_eq_true, Bool.not_eq_true'] at this; exact this
       have e1 : cardB n T + cardB n S ≤ cardB n (fun i => T i || S i) := countP_two (fun i => T i || S i) T S (List.range n) (fun i hi h => ⟨by simp [h], (hT' i (List.mem_range.1 hi) h).2⟩) (fun i _ h => by simp [h])
       have e2 := hH (fun i => T i || S i) (fun i hi h => by
        simp only [Bool.or_eq_true] at h
        rcases h with h | h
        · exact (hT' i hi h).1
        · exact hS i hi h)
       have e3 : cardB n (nbr n P C (fun i => T i || S i)) ≤ cardB n (nbr n P (fun j => C j && !nbr n P C S j) T) + cardB n (nbr n P C S) := countP_sub _ _ _ (List.range n) (fun j _ h => by
        obtain ⟨hc, i, hi, hs, hp⟩ := nbr_iff.1 h
        by_cases hn : nbr n P C S j = true
        · exact .inr hn
        · refine .inl (nbr_iff.2 ⟨by simp only [Bool.and_eq_true, Bool.not_eq_true']; exact ⟨hc, by simpa using hn⟩, i, hi, ?_, hp⟩)
          simp only [Bool.or_eq_true] at hs
          rcases hs with hs | hs
          · exact hs
          · exact (hn (nbr_iff.2 ⟨hc, i, hi, hs, hp⟩)).elim)
       omega)
      have q1 : ∀ i, i < n → S i = true → nbr n P C S (f1 i) = true := fun i hi h => by
       obtain ⟨_, hc, hp⟩ := a1 i hi h
       exact nbr_iff.2 ⟨hc, i, hi, h, hp⟩
      have q2 : ∀ i, i < n → R i = true → ¬ S i = true → f2 i < n ∧ C (f2 i) = true ∧ nbr n P C S (f2 i) = false ∧ P i (f2 i) = true := fun i hi h hs => by
       obtain ⟨u, v, w⟩ := a2 i hi (tafg)
       simp only [Bool.and_eq_true, Bool.not_eq_true'] at v
       exact ⟨u, v.1, v.2, w⟩
      refine ⟨fun i => if S i = true then f1 i else f2 i, fun i hi h => ?_, fun i j hi hj h k e => ?_⟩
      · show (if S i = true then f1 i else f2 i) < n ∧ C (if S i = true then f1 i else f2 i) = true ∧ P i (if S i = true then f1 i else f2 i) = true
        by_cases hs : S i = true
        · rw [if_pos hs]
          exact a1 i hi hs
        · rw [if_neg hs]
          obtain ⟨u, v, _, w⟩ := q2 i hi h hs
          exact ⟨u, v, w⟩
      · simp only at e
        by_cases hs : S i = true
        · by_cases ht : S j = true
          · rw [if_pos hs, if_pos ht] at e
            exact b1 i j hi hj hs ht e
          · rw [if_pos hs, if_neg ht] at e
            have x1 := q1 i hi hs
            have x2 := (q2 j hj k ht).2.2.1
            rw [e, x2] at x1
            cases x1
        · by_cases ht : S j = true
          · rw [if_neg hs, if_pos ht] at e
            have x1 := q1 j hj ht
            have x2 := (q2 i hi h hs).2.2.1
            rw [← e, x2] at x1
            cases x1
          · rw [if_neg hs, if_neg ht] at e
            exact b2 i j hi hj (tafg) (tafk) e
    · have hA : ∀ T : Nat → Bool, (∀ i, i < n → T i = true → R i = true) → 0 < cardB n T → cardB n T < cardB n R → cardB n T + 1 ≤ cardB n (nbr n P C T) := fun T h1 h2 h3 => by
       have : ¬ cardB n (nbr n P C T) ≤ cardB n T := fun h4 => hB ⟨T, h1, h2, h3, h4⟩
       omega
      have hs1 : 0 < cardB n (fun i => i == r) := cardB_pos hr (taac)
      have hN := hH (fun i => i == r) (fun i _ h => by
       have e : i = r := by simpa using h
       rw [e]
       exact hRr)
      obtain ⟨c, hc, hnc⟩ := cardB_ex (show 0 < cardB n (nbr n P C (fun i => i == r)) by omega)
      obtain ⟨hCc, i0, _, hi0, hP⟩ := nbr_iff.1 hnc
      have ei0 : i0 = r := by simpa using hi0
      subst ei0
      have hsplit : cardB n (fun i => R i && !(i == i0)) + cardB n (fun i => i == i0) ≤ cardB n R := countP_two R (fun i => R i && !(i == i0)) (fun i => i == i0) (List.range n) (fun i _ h => taey) (fun i _ h => by
       have e : i = i0 := by simpa using h
       rw [e]
       exact hRr)
      obtain ⟨f1, a1, b1⟩ := hall n P m (fun i => R i && !(i == i0)) (fun j => C j && !(j == c)) (by omega) (fun T hT => by
       by_cases ht0 : 0 < cardB n T
       · have hTR : ∀ i, i < n → T i = true → R i = true := fun i hi h => by have := hT i hi h; simp only [Bool.and_eq_true] at this; exact this.1
         have hle : cardB n T ≤ cardB n (fun i => R i && !(i == i0)) := cardB_le hT
         have g := hA T hTR ht0 (by omega)
         have e3 : cardB n (nbr n P C T) ≤ cardB n (nbr n P (fun j => C j && !(j == c)) T) + cardB n (fun j => j == c) := countP_sub _ _ _ (List.range n) (fun j _ h => by
          obtain ⟨hcj, i, hi, hs, hp⟩ := nbr_iff.1 h
          by_cases e : j = c
          · exact .inr (by simpa using e)
          · exact .inl (nbr_iff.2 ⟨by simp only [Bool.and_eq_true, Bool.not_eq_true']; exact ⟨hcj, by simpa using e⟩, i, hi, hs, hp⟩))
         have := cardB_one n c
         omega
       · omega)
      have q : ∀ i, i < n → R i = true → i ≠ i0 → f1 i < n ∧ C (f1 i) = true ∧ f1 i ≠ c ∧ P i (f1 i) = true := fun i hi h hne => by
       obtain ⟨u, v, w⟩ := a1 i hi (by simp only [Bool.and_eq_true, Bool.not_eq_true']; exact ⟨h, by simpa using hne⟩)
       simp only [Bool.and_eq_true, Bool.not_eq_true'] at v
       exact ⟨u, v.1, by simpa using v.2, w⟩
      refine ⟨fun i => if i = i0 then c else f1 i, fun i hi h => ?_, fun i j hi hj h k e => ?_⟩
      · show (if i = i0 then c else f1 i) < n ∧ C (if i = i0 then c else f1 i) = true ∧ P i (if i = i0 then c else f1 i) = true
        by_cases hs : i = i0
        · rw [if_pos hs, hs]
          exact ⟨hc, hCc, hP⟩
        · rw [if_neg hs]
          obtain ⟨u, v, _, w⟩ := q i hi h hs
          exact ⟨u, v, w⟩
      · simp only at e
        by_cases hs : i = i0
        · by_cases ht : j = i0
          · rw [hs, ht]
          · rw [if_pos hs, if_neg ht] at e
            exact ((q j hj k ht).2.2.1 e.symm).elim
        · by_cases ht : j = i0
          · rw [if_neg hs, if_pos ht] at e
            exact ((q i hi h hs).2.2.1 e).elim
          · rw [if_neg hs, if_neg ht] at e
            exact b1 i j hi hj (tafg) (tafk) e
  · have hno : ∀ i, i < n → R i = true → False := fun i hi h => hex (cardB_pos hi h)
    exact ⟨id, fun i hi h => (hno i hi h).elim, fun i j hi _ h _ _ => (hno i hi h).elim⟩
theorem l1Own_eq (l : List Int) (hx : l.length ≤ 1048576) : spec_l1Own.f l = some l := by
 unfold spec_l1Own.f
 simp only [zbe, List.nil_append, List.length_nil, Nat.zero_add, if_pos (show l.length < 17592186044416 by omega)]
def insD : List Int → Int → List Int
 | [], x => [x]
 | y :: ys, x => if x ≤ y then y :: insD ys x else x :: y :: ys
def Desc (l : List Int) : Prop := l.Pairwise fun x y => y ≤ x
theorem insD_at (x : Int) : ∀ (out : List Int) (j : Nat), j ≤ out.length → (∀ i, i < j → ∀ h : i < out.length, x ≤ out[i]) → (∀ h : j < out.length, ¬ x ≤ out[j]) → insD out x = out.take j ++ [x] ++ out.drop j
 | [], j, hj, _, _ => by simp [insD]
 | y :: ys, 0, _, _, h => by
  have := h (taac)
  simp only [List.getElem_cons_zero] at this
  simp [insD, this]
 | y :: ys, j + 1, hj, h1, h2 => by
  have h0 := h1 0 (by omega) (taac)
  simp only [List.getElem_cons_zero] at h0
  have ih := insD_at x ys j (by simpa using hj) (fun i hi h => by have := h1 (i + 1) (by omega) (taaz); simpa using this) (fun h => by have := h2 (taaz); simpa using this)
  simp only [insD, if_pos h0, ih, List.take_succ_cons, List.drop_succ_cons, List.cons_append]
theorem insD_perm (x : Int) : ∀ out : List Int, (insD out x).Perm (x :: out)
 | [] => List.Perm.refl _
 | y :: ys => by
  unfold insD
  split
  · exact ((insD_perm x ys).cons y).trans (List.Perm.swap x y ys)
  · exact List.Perm.refl _
theorem insD_length (x : Int) (out : List Int) : (insD out x).length = out.length + 1 := by
 rw [(insD_perm x out).length_eq, List.length_cons]
theorem insD_desc (x : Int) : ∀ out : List Int, Desc out → Desc (insD out x)
 | [], _ => by simp [insD, Desc]
 | y :: ys, h => by
  unfold insD
  unfold Desc at h
  rw [List.pairwise_cons] at h
  split
  · next hc =>
    unfold Desc
    rw [List.pairwise_cons]
    refine ⟨fun z hz => ?_, insD_desc x ys h.2⟩
    rcases List.mem_cons.1 ((insD_perm x ys).mem_iff.1 hz) with rfl | hz
    · exact hc
    · exact h.1 z hz
  · next hc =>
    unfold Desc
    rw [List.pairwise_cons, List.pairwise_cons]
    refine ⟨fun z hz => ?_, h⟩
    rcases List.mem_cons.1 hz with rfl | hz
    · omega
    · have := h.1 z hz
      omega
theorem descL_perm (l : List Int) : (descL l).Perm l := List.mergeSort_perm l _
theorem descL_desc (l : List Int) : Desc (descL l) := by
 unfold descL Desc
 have h := List.pairwise_mergeSort (le := fun x y : Int => decide (y ≤ x)) (fun a b c h1 h2 => by simp only [decide_eq_true_eq] at *; omega) (fun a b => by simp only [Bool.or_eq_true, decide_eq_true_eq]; omega) l
 exact h.imp (fun h => taaz)
theorem desc_unique {a b : List Int} (h : a.Perm b) (ha : Desc a) (hb : Desc b) : a = b :=
 List.Perm.eq_of_pairwise (le := fun x y : Int => y ≤ x) (fun x y _ _ h1 h2 => by omega) ha hb h
theorem descL_length (l : List Int) : (descL l).length = l.length := (descL_perm l).length_eq
theorem descL_mem {l : List Int} {x : Int} : x ∈ descL l ↔ x ∈ l := (descL_perm l).mem_iff
theorem descL_of_desc {l : List Int} (h : Desc l) : descL l = l := desc_unique (descL_perm l) (descL_desc l) h
theorem descL_descL (l : List Int) : descL (descL l) = descL l := descL_of_desc (descL_desc l)
theorem perm_sum {a b : List Int} (h : a.Perm b) : a.sum = b.sum := by
 induction h with
 | nil => rfl
 | cons x _ ih => simp only [List.sum_cons, ih]
 | swap x y l => simp only [List.sum_cons]; omega
 | trans _ _ ih1 ih2 => exact ih1.trans ih2
theorem descL_sum (l : List Int) : (descL l).sum = l.sum := perm_sum (descL_perm l)
theorem foldl_ins_perm : ∀ (l out : List Int), (l.foldl insD out).Perm (out ++ l)
 | [], out => by simp
 | x :: l, out => by
  rw [List.foldl_cons]
  refine (foldl_ins_perm l (insD out x)).trans ?_
  refine ((insD_perm x out).append_right l).trans ?_
  exact (List.perm_middle (a := x) (l₁ := out) (l₂ := l)).symm
theorem foldl_ins_desc : ∀ (l out : List Int), Desc out → Desc (l.foldl insD out)
 | [], out, h => h
 | x :: l, out, h => by
  rw [List.foldl_cons]
  exact foldl_ins_desc l _ (insD_desc x out h)
theorem foldl_ins (l : List Int) : l.foldl insD [] = descL l :=
 desc_unique ((by simpa using foldl_ins_perm l [] : (l.foldl insD []).Perm l).trans (descL_perm l).symm) (foldl_ins_desc l [] (by simp [Desc])) (descL_desc l)
def Sm (l : List Int) : Prop := l.length ≤ 1000 ∧ ∀ x ∈ l, 0 ≤ x ∧ x ≤ 1000
theorem good_sm {l : List Int} (h : goodL l = true) : Sm l := by
 have := (goodL_iff l).1 h
 exact ⟨by omega, fun x hx => by have := this.2.2 x hx; omega⟩
theorem sm_desc {l : List Int} (h : Sm l) : Sm (descL l) := ⟨by rw [descL_length]; exact h.1, fun x hx => h.2 x (descL_mem.1 hx)⟩
theorem good_desc (l : List Int) : goodL (descL l) = goodL l := by
 rw [Bool.eq_iff_iff, goodL_iff, goodL_iff, descL_length]
 simp only [descL_mem]
theorem ranking_eq {l : List Int} (h : Sm l) : impl_ranking.f l = some (descL l) := by
 unfold impl_ranking.f smallL
 rw [if_pos]
 simp only [Bool.and_eq_true, decide_eq_true_eq, List.all_eq_true]
 exact ⟨by have := h.1; omega, fun x hx => by have := h.2 x hx; omega⟩
theorem liRank_in (l : List Int) (x : Int) (i9 : Int) (out : List Int) (hout : out.length ≤ 1000000) (r : List Int) (hr : Ev (fun k => spec_liRank.l0 k (insD out x) l (l.length : Int) (wrap64 (i9 + 1))) r) :
 ∀ (n j : Nat), j + n = out.length → (∀ i, i < j → ∀ h : i < out.length, x ≤ out[i]) → Ev (fun k => spec_liRank.l1 k out x (j : Int) l (l.length : Int) i9) r
 | 0, j, h, hall => by
  refine Ev.succ ?_
  have e := insD_at x out j (by omega) hall (fun h' => by omega)
  simp only [spec_liRank.l1, if_neg (show ¬ (j : Int) < (out.length : Int) by omega), if_pos (show (0 : Int) ≤ (j : Int) by omega), if_pos (show (j : Int) ≤ (out.length : Int) by omega), Int.toNat_natCast, l1Own_eq (out.take j) (by rw [zax]; omega), zbe, List.length_append, zax, zaw, List.length_cons, List.length_nil]
  simp only [if_pos (show min j out.length + (0 + 1) < 17592186044416 by omega), if_pos (show min j out.length + (0 + 1) + (out.length - j) < 17592186044416 by omega)]
  rw [e] at hr
  exact hr
 | n + 1, j, h, hall => by
  have hj : j < out.length := by omega
  refine Ev.succ ?_
  by_cases c : x ≤ out[j]
  · simp only [spec_liRank.l1, if_pos (show (j : Int) < (out.length : Int) by omega), if_pos (show (0 : Int) ≤ (j : Int) by omega), rdn hj, if_pos (show out[j] ≥ x from c), wsucc hj (by omega)]
    refine liRank_in l x i9 out hout r hr n (j + 1) (by omega) (fun i hi h' => ?_)
    by_cases e : i = j
    · subst e
      exact c
    · exact hall i (by omega) h'
  · have e := insD_at x out j (by omega) hall (fun h' => c)
    simp only [spec_liRank.l1, if_pos (show (j : Int) < (out.length : Int) by omega), if_pos (show (0 : Int) ≤ (j : Int) by omega), rdn hj, if_neg (show ¬ out[j] ≥ x from c), if_pos (show (j : Int) ≤ (out.length : Int) by omega), Int.toNat_natCast, l1Own_eq (out.take j) (by rw [zax]; omega), zbe, List.length_append, zax, zaw, List.length_cons, List.length_nil]
    simp only [if_pos (show min j out.length + (0 + 1) < 17592186044416 by omega), if_pos (show min j out.length + (0 + 1) + (out.length - j) < 17592186044416 by omega)]
    rw [e] at hr
    exact hr
theorem liRank_ev (l : List Int) (hx : l.length ≤ 1000000) : Ev (fun k => spec_liRank.f k l) (descL l) := by
 unfold spec_liRank.f
 have h := ev_fold (xs := l) (g := fun k out i => spec_liRank.l0 k out l (l.length : Int) i) insD (fun out i => out.length = i) id
  (fun s _ => Ev.succ (by simp only [spec_liRank.l0, if_neg (Int.lt_irrefl _)]; exact Ev.now _))
  (fun i h s r hs _ hr => Ev.succ (by
   simp only [spec_liRank.l0, if_pos (show (i : Int) < (l.length : Int) by omega), if_pos (show (0 : Int) ≤ (i : Int) by omega), rdn h]
   exact liRank_in l l[i] (i : Int) s (by omega) r (by rw [wsucc h (by omega)]; exact hr) s.length 0 (by omega) (fun j hj => by omega)))
  (fun i h s hs => by rw [insD_length, hs]) l.length 0 [] (by omega) rfl
 rw [List.drop_zero, foldl_ins] at h
 exact h
def psums : Int → List Int → List Int
 | _, [] => []
 | s, x :: l => (s + x) :: psums (s + x) l
def psStep (s : List Int × Int) (x : Int) : List Int × Int := (s.1 ++ [s.2 + x], s.2 + x)
theorem foldl_ps : ∀ (l : List Int) (s : List Int × Int), (l.foldl psStep s).1 = s.1 ++ psums s.2 l
 | [], s => by simp [psums]
 | x :: l, s => by
  rw [List.foldl_cons, foldl_ps l]
  simp [psStep, psums]
theorem psums_length : ∀ (l : List Int) (s : Int), (psums s l).length = l.length
 | [], _ => rfl
 | x :: l, s => by simp [psums, psums_length l]
theorem liSums_ev (l : List Int) (h : Sm l) : Ev (fun k => spec_liSums.f k l) (psums 0 l) := by
 unfold spec_liSums.f
 have hl := h.1
 have h := ev_fold (xs := l) (g := fun k s i => spec_liSums.l0 k s.1 s.2 l (l.length : Int) i) psStep (fun s i => s.1.length = i ∧ 0 ≤ s.2 ∧ s.2 ≤ 1000 * (i : Int)) (fun s => s.1)
  (fun s _ => Ev.succ (by simp only [spec_liSums.l0, if_neg (Int.lt_irrefl _)]; exact Ev.now _))
  (fun i hi s r hs _ hr => Ev.succ (by
   have hb := h.2 _ (List.getElem_mem hi)
   simp only [spec_liSums.l0, if_pos (show (i : Int) < (l.length : Int) by omega), if_pos (show (0 : Int) ≤ (i : Int) by omega), rdn hi, if_pos (show s.1.length < 17592186044416 by omega), wsucc hi (by omega), w64 (x := s.2 + l[i]) (by omega) (by omega)]
   exact hr))
  (fun i hi s hs => by
   have hb := h.2 _ (List.getElem_mem hi)
   simp only [psStep, List.length_append, List.length_cons, List.length_nil]
   omega) l.length 0 ([], 0) (by omega) (taac)
 rw [List.drop_zero, foldl_ps] at h
 exact h
theorem partial_l (l : List Int) (h : Sm l) : Ev (fun k => impl_partial.l0 k [] 0 l (l.length : Int) 0) (psums 0 l) := by
 have hl := h.1
 have h := ev_fold (xs := l) (g := fun k s i => impl_partial.l0 k s.1 s.2 l (l.length : Int) i) psStep (fun s i => s.1.length = i ∧ 0 ≤ s.2 ∧ s.2 ≤ 1000 * (i : Int)) (fun s => s.1)
  (fun s _ => Ev.succ (by simp only [impl_partial.l0, if_neg (Int.lt_irrefl _)]; exact Ev.now _))
  (fun i hi s r hs _ hr => Ev.succ (by
   have hb := h.2 _ (List.getElem_mem hi)
   simp only [impl_partial.l0, if_pos (show (i : Int) < (l.length : Int) by omega), if_pos (show (0 : Int) ≤ (i : Int) by omega), rdn hi, if_pos (show s.1.length < 17592186044416 by omega), wsucc hi (by omega), w64 (x := s.2 + l[i]) (by omega) (by omega)]
   exact hr))
  (fun i hi s hs => by
   have hb := h.2 _ (List.getElem_mem hi)
   simp only [psStep, List.length_append, List.length_cons, List.length_nil]
   omega) l.length 0 ([], 0) (by omega) (taac)
 rw [List.drop_zero, foldl_ps] at h
 exact h
def partL (l : List Int) : List Int := psums 0 (descL l)
theorem liPartial_ev (l : List Int) (h : Sm l) : Ev (fun k => spec_liPartial.f k l) (partL l) := by
 unfold spec_liPartial.f
 exact Ev.bind (liRank_ev l (by have := h.1; omega)) (Ev.bind (liSums_ev _ (sm_desc h)) (Ev.now _))
theorem partial_ev (l : List Int) (h : Sm l) : Ev (fun k => impl_partial.f k l) (partL l) := by
 unfold impl_partial.f
 simp only [ranking_eq h, zbe]
 exact partial_l _ (sm_desc h)
theorem partL_length (l : List Int) : (partL l).length = l.length := by
 unfold partL
 rw [psums_length, descL_length]
theorem foldl_add : ∀ (l : List Int) (s : Int), l.foldl (fun s x => s + x) s = s + l.sum
 | [], s => by simp
 | x :: l, s => by
  rw [List.foldl_cons, foldl_add l, List.sum_cons]
  omega
theorem liSum_ev (l : List Int) (h : Sm l) : Ev (fun k => spec_liSum.f k l) l.sum := by
 unfold spec_liSum.f
 have hl := h.1
 have h := ev_fold (xs := l) (g := fun k s i => spec_liSum.l0 k s l (l.length : Int) i) (fun s x => s + x) (fun s i => 0 ≤ s ∧ s ≤ 1000 * (i : Int)) id
  (fun s _ => Ev.succ (by simp only [spec_liSum.l0, if_neg (Int.lt_irrefl _)]; exact Ev.now _))
  (fun i hi s r hs _ hr => Ev.succ (by
   have hb := h.2 _ (List.getElem_mem hi)
   simp only [spec_liSum.l0, if_pos (show (i : Int) < (l.length : Int) by omega), if_pos (show (0 : Int) ≤ (i : Int) by omega), rdn hi, wsucc hi (by omega), w64 (x := s + l[i]) (by omega) (by omega)]
   exact hr))
  (fun i hi s hs => by
   have hb := h.2 _ (List.getElem_mem hi)
   omega) l.length 0 0 (by omega) (by omega)
 rw [List.drop_zero, foldl_add, Int.zero_add] at h
 exact h
theorem total_ev (l : List Int) (h : Sm l) : Ev (fun k => impl_total.f k l) l.sum := by
 unfold impl_total.f
 have hl := h.1
 have h := ev_fold (xs := l) (g := fun k s i => impl_total.l0 k s l (l.length : Int) i) (fun s x => s + x) (fun s i => 0 ≤ s ∧ s ≤ 1000 * (i : Int)) id
  (fun s _ => Ev.succ (by simp only [impl_total.l0, if_neg (Int.lt_irrefl _)]; exact Ev.now _))
  (fun i hi s r hs _ hr => Ev.succ (by
   have hb := h.2 _ (List.getElem_mem hi)
   simp only [impl_total.l0, if_pos (show (i : Int) < (l.length : Int) by omega), if_pos (show (0 : Int) ≤ (i : Int) by omega), rdn hi, wsucc hi (by omega), w64 (x := s + l[i]) (by omega) (by omega)]
   exact hr))
  (fun i hi s hs => by
   have hb := h.2 _ (List.getElem_mem hi)
   omega) l.length 0 0 (by omega) (by omega)
 rw [List.drop_zero, foldl_add, Int.zero_add] at h
 exact h
def fitB (a b : List Int) : Bool := if (a.length : Int) = (b.length : Int) then (a.sum == b.sum) else false
theorem fitB_iff (a b : List Int) : fitB a b = true ↔ a.length = b.length ∧ a.sum = b.sum := by
 unfold fitB
 by_cases h : (a.length : Int) = (b.length : Int)
 · rw [if_pos h, beq_iff_eq]
   exact ⟨fun h' => ⟨by omega, h'⟩, fun h' => h'.2⟩
 · rw [if_neg h]
   exact ⟨fun h' => absurd h' (by decide), fun h' => absurd h'.1 (by omega)⟩
theorem liFit_ev (a b : List Int) (ha : Sm a) (hb : Sm b) : Ev (fun k => spec_liFit.f k a b) (fitB a b) := by
 unfold spec_liFit.f fitB
 exact Ev.ite (fun _ => Ev.bind (liSum_ev a ha) (Ev.bind (liSum_ev b hb) (Ev.now _))) (fun _ => Ev.now _)
theorem doFit_ev (a b : List Int) (ha : Sm a) (hb : Sm b) : Ev (fun k => impl_doFit.f k a b) (fitB a b) := by
 unfold impl_doFit.f fitB
 exact Ev.ite (fun _ => Ev.bind (total_ev a ha) (Ev.bind (total_ev b hb) (Ev.now _))) (fun _ => Ev.now _)
theorem areLists_ev (a b : List Int) (ha : a.length ≤ 1048576) (hb : b.length ≤ 1048576) : Ev (fun k => impl_areLists.f k a b) (if goodL a = true then goodL b else false) := by
 unfold impl_areLists.f
 exact Ev.bind (implIsList_ev a (by omega)) (Ev.ite (fun _ => Ev.bind (implIsList_ev b (by omega)) (Ev.now _)) (fun _ => Ev.now _))
def overL : Int → List Int → List Int → Int
 | i, x :: xs, y :: ys => if x > y then i + 1 else overL (i + 1) xs ys
 | _, _, _ => 0
theorem liOver_l (p q : List Int) (h : p.length ≤ q.length) (hp : p.length ≤ 1000000) : ∀ (n i : Nat), i + n = p.length → Ev (fun k => spec_liOver.l0 k p q (p.length : Int) (i : Int)) (overL (i : Int) (p.drop i) (q.drop i))
 | 0, i, hi => by
  refine Ev.succ ?_
  simp only [spec_liOver.l0, if_neg (show ¬ (i : Int) < (p.length : Int) by omega)]
  rw [List.drop_eq_nil_of_le (by omega), overL]
  exact Ev.now _
  simp
 | n + 1, i, hi => by
  have h1 : i < p.length := by omega
  have h2 : i < q.length := by omega
  refine Ev.succ ?_
  simp only [spec_liOver.l0, if_pos (show (i : Int) < (p.length : Int) by omega), if_pos (show (i : Int) < (q.length : Int) by omega), if_pos (show (0 : Int) ≤ (i : Int) by omega), rdn h1, rdn h2, wsucc h1 (by omega)]
  rw [List.drop_eq_getElem_cons h1, List.drop_eq_getElem_cons h2, overL]
  refine Ev.ite (fun _ => ?_) (fun _ => ?_)
  · rw [show ((i : Int) + 1) = ((i + 1 : Nat) : Int) by omega]
    exact Ev.now _
  · rw [show ((i : Int) + 1) = ((i + 1 : Nat) : Int) by omega]
    exact liOver_l p q h hp n (i + 1) (by omega)
theorem refused_l (p q : List Int) (h : p.length ≤ q.length) (hp : p.length ≤ 1000000) : ∀ (n i : Nat), i + n = p.length → Ev (fun k => impl_refused.l0 k q p (p.length : Int) (i : Int)) (overL (i : Int) (p.drop i) (q.drop i))
 | 0, i, hi => by
  refine Ev.succ ?_
  simp only [impl_refused.l0, if_neg (show ¬ (i : Int) < (p.length : Int) by omega)]
  rw [List.drop_eq_nil_of_le (by omega), overL]
  exact Ev.now _
  simp
 | n + 1, i, hi => by
  have h1 : i < p.length := by omega
  have h2 : i < q.length := by omega
  refine Ev.succ ?_
  simp only [impl_refused.l0, if_pos (show (i : Int) < (p.length : Int) by omega), if_pos (show (i : Int) < (q.length : Int) by omega), if_pos (show (0 : Int) ≤ (i : Int) by omega), rdn h1, rdn h2, wsucc h1 (by omega)]
  rw [List.drop_eq_getElem_cons h1, List.drop_eq_getElem_cons h2, overL]
  refine Ev.ite (fun _ => ?_) (fun _ => ?_)
  · rw [show ((i : Int) + 1) = ((i + 1 : Nat) : Int) by omega]
    exact Ev.now _
  · rw [show ((i : Int) + 1) = ((i + 1 : Nat) : Int) by omega]
    exact refused_l p q h hp n (i + 1) (by omega)
def overR (a b : List Int) : Int := overL 0 (partL a) (partL b)
theorem liOver_ev (a b : List Int) (ha : Sm a) (hb : Sm b) (h : a.length ≤ b.length) : Ev (fun k => spec_liOver.f k a b) (overR a b) := by
 unfold spec_liOver.f
 exact Ev.bind (liPartial_ev a ha) (Ev.bind (liPartial_ev b hb) (liOver_l _ _ (by rw [partL_length, partL_length]; exact h) (by rw [partL_length]; have := ha.1; omega) (partL a).length 0 (by omega)))
theorem refused_ev (a b : List Int) (ha : Sm a) (hb : Sm b) (h : a.length ≤ b.length) : Ev (fun k => impl_refused.f k a b) (overR a b) := by
 unfold impl_refused.f
 exact Ev.bind (partial_ev b hb) (Ev.bind (partial_ev a ha) (refused_l _ _ (by rw [partL_length, partL_length]; exact h) (by rw [partL_length]; have := ha.1; omega) (partL a).length 0 (by omega)))
theorem overL_zero : ∀ (p q : List Int) (i : Int), 0 ≤ i → (overL i p q = 0 ↔ ∀ (j : Nat) (h1 : j < p.length) (h2 : j < q.length), p[j] ≤ q[j])
 | [], q, i, _ => by simp [overL]
 | x :: p, [], i, _ => by simp [overL]
 | x :: p, y :: q, i, h => by
  unfold overL
  by_cases c : x > y
  · rw [if_pos c]
    refine ⟨fun h' => by omega, fun h' => ?_⟩
    have := h' 0 (taac) (taac)
    simp only [List.getElem_cons_zero] at this
    omega
  · rw [if_neg c, overL_zero p q (i + 1) (by omega)]
    constructor
    · intro h' j h1 h2
      cases j with
      | zero => simp only [List.getElem_cons_zero]; omega
      | succ j =>
       rw [List.getElem_cons_succ, List.getElem_cons_succ]
       exact h' j (by rw [List.length_cons] at h1; omega) (by rw [List.length_cons] at h2; omega)
    · intro h' j h1 h2
      have h3 := h' (j + 1) (by rw [List.length_cons]; omega) (by rw [List.length_cons]; omega)
      rw [List.getElem_cons_succ, List.getElem_cons_succ] at h3
      exact h3
def majB (a b : List Int) : Bool := if fitB a b = true then (overR a b == 0) else false
theorem liBelow_ev (a b : List Int) (ha : Sm a) (hb : Sm b) : Ev (fun k => spec_liBelow.f k a b) (majB a b) := by
 unfold spec_liBelow.f majB
 exact Ev.bind (liFit_ev a b ha hb) (Ev.ite (fun h => Ev.bind (liOver_ev a b ha hb (by have := (fitB_iff a b).1 h; omega)) (Ev.now _)) (fun _ => Ev.now _))
theorem isMajorized_ev (a b : List Int) (ha : Sm a) (hb : Sm b) : Ev (fun k => impl_isMajorized.f k a b) (majB a b) := by
 unfold impl_isMajorized.f majB
 exact Ev.bind (doFit_ev a b ha hb) (Ev.ite (fun h => Ev.bind (refused_ev a b ha hb (by have := (fitB_iff a b).1 h; omega)) (Ev.now _)) (fun _ => Ev.now _))
theorem majB_iff (a b : List Int) : majB a b = true ↔ a.length = b.length ∧ a.sum = b.sum ∧ ∀ (j : Nat) (h1 : j < (partL a).length) (h2 : j < (partL b).length), (partL a)[j] ≤ (partL b)[j] := by
 unfold majB overR
 by_cases h : fitB a b = true
 · rw [if_pos h, beq_iff_eq, overL_zero _ _ _ (Int.le_refl _)]
   have := (fitB_iff a b).1 h
   simp only [this, true_and]
 · rw [if_neg h]
   rw [fitB_iff] at h
   constructor
   · intro h'
     exact absurd h' (by decide)
   · intro h'
     exact absurd ⟨h'.1, h'.2.1⟩ h
def isG (l : List Int) (f t a : Int) : Bool := decide ((0 ≤ f ∧ f ≤ (l.length : Int) - 1) ∧ (0 ≤ t ∧ t ≤ (l.length : Int) - 1) ∧ f ≠ t ∧ 1 ≤ a)
theorem isG_iff (l : List Int) (f t a : Int) : isG l f t a = true ↔ (0 ≤ f ∧ f < l.length) ∧ (0 ≤ t ∧ t < l.length) ∧ f ≠ t ∧ 1 ≤ a := by
 unfold isG
 rw [decide_eq_true_eq]
 omega
theorem rd_good {l : List Int} (hg : goodL l = true) {i : Int} (h0 : 0 ≤ i) (h1 : i < l.length) : 0 ≤ rd l i ∧ rd l i ≤ 60 := by
 have h := ((goodL_iff l).1 hg).2.2
 have hi : i.toNat < l.length := by omega
 have e : rd l i = l[i.toNat] := rdi h0 h1
 rw [e]
 exact h _ (List.getElem_mem hi)
def kindB (l : List Int) (f t a : Int) : Bool := isG l f t a && (decide (a ≤ 60) && decide (rd l t + a ≤ rd l f - a))
def giveL (l : List Int) (f t a : Int) : List Int := (l.set f.toNat (rd l f - a)).set t.toNat (rd l t + a)
theorem rd_set_ne {l : List Int} {i j : Int} (x : Int) (h0 : 0 ≤ i) (h1 : 0 ≤ j) (h : i ≠ j) : rd (l.set i.toNat x) j = rd l j := by
 unfold rd
 rw [List.getD_eq_getElem?_getD, List.getD_eq_getElem?_getD, List.getElem?_set_ne (by omega)]
theorem rd_set_self {l : List Int} {i : Int} (x : Int) (h0 : 0 ≤ i) (h1 : i < l.length) : rd (l.set i.toNat x) i = x := by
 unfold rd
 rw [List.getD_eq_getElem?_getD, List.getElem?_set_self (by omega)]
 rfl
theorem rd_mem {l : List Int} {i : Int} (h0 : 0 ≤ i) (h1 : i < l.length) : rd l i ∈ l := by
 have hi : i.toNat < l.length := by omega
 have e : rd l i = l[i.toNat] := rdi h0 h1
 rw [e]
 exact List.getElem_mem hi
theorem give_good (l : List Int) (f t x y : Int) (hg : goodL l = true) (h1 : 0 ≤ f ∧ f < l.length) (h2 : 0 ≤ t ∧ t < l.length) (h3 : f ≠ t) : goodL ((l.set f.toNat x).set t.toNat y) = true ↔ (0 ≤ x ∧ x ≤ 60) ∧ 0 ≤ y ∧ y ≤ 60 := by
 have hb := (goodL_iff l).1 hg
 rw [goodL_iff]
 simp only [List.length_set]
 constructor
 · intro h
   have e1 : rd ((l.set f.toNat x).set t.toNat y) f = x := by rw [rd_set_ne _ h2.1 h1.1 (Ne.symm h3), rd_set_self _ h1.1 h1.2]
   have e2 : rd ((l.set f.toNat x).set t.toNat y) t = y := rd_set_self _ h2.1 (tacr)
   have m1 := h.2.2 _ (rd_mem (l := (l.set f.toNat x).set t.toNat y) h1.1 (by simp only [List.length_set]; exact h1.2))
   have m2 := h.2.2 _ (rd_mem (l := (l.set f.toNat x).set t.toNat y) h2.1 (by simp only [List.length_set]; exact h2.2))
   rw [e1] at m1
   rw [e2] at m2
   exact ⟨m1, m2⟩
 · rintro ⟨hx, hy⟩
   refine ⟨hb.1, hb.2.1, fun z hz => ?_⟩
   rcases List.mem_or_eq_of_mem_set hz with hz | rfl
   · rcases List.mem_or_eq_of_mem_set hz with hz | rfl
     · exact hb.2.2 z hz
     · exact hx
   · exact hy
def pre (x : List Int) (m : Nat) : Int := (x.take m).sum
theorem pre_zero (x : List Int) : pre x 0 = 0 := rfl
theorem pre_succ {x : List Int} {m : Nat} (h : m < x.length) : pre x (m + 1) = pre x m + rd x (m : Int) := by
 unfold pre
 rw [List.take_succ_eq_append_getElem h, List.sum_append, rdn h, List.sum_cons, List.sum_nil, Int.add_zero]
theorem pre_all {x : List Int} {m : Nat} (h : x.length ≤ m) : pre x m = x.sum := by
 unfold pre
 rw [List.take_of_length_le h]
theorem psums_get : ∀ (l : List Int) (s : Int) (j : Nat) (h : j < (psums s l).length), (psums s l)[j] = s + pre l (j + 1)
 | [], s, j, h => by simp [psums] at h
 | x :: l, s, 0, h => by simp [psums, pre]
 | x :: l, s, j + 1, h => by
  have h' : j < (psums (s + x) l).length := by
   rw [psums, List.length_cons] at h
   omega
  have := psums_get l (s + x) j h'
  simp only [psums, List.getElem_cons_succ]
  rw [this]
  simp only [pre, List.take_succ_cons, List.sum_cons]
  omega
def Dom (x t : List Int) : Prop := x.length = t.length ∧ x.sum = t.sum ∧ ∀ m, pre t m ≤ pre x m
theorem majB_dom (a b : List Int) : majB a b = true ↔ Dom (descL b) (descL a) := by
 rw [majB_iff]
 unfold Dom
 rw [descL_length, descL_length, descL_sum, descL_sum]
 constructor
 · rintro ⟨h1, h2, h3⟩
   refine ⟨h1.symm, h2.symm, fun m => ?_⟩
   cases m with
   | zero => rw [pre_zero, pre_zero]; exact Int.le_refl _
   | succ m =>
    by_cases hm : m < a.length
    · have h := h3 m (by rw [partL_length]; exact hm) (by rw [partL_length]; omega)
      unfold partL at h
      rw [psums_get, psums_get] at h
      omega
    · rw [pre_all (by rw [descL_length]; omega), pre_all (by rw [descL_length]; omega), descL_sum, descL_sum]
      omega
 · rintro ⟨h1, h2, h3⟩
   refine ⟨h1.symm, h2.symm, fun j q1 q2 => ?_⟩
   have e1 : (partL a)[j] = 0 + pre (descL a) (j + 1) := psums_get _ _ _ q1
   have e2 : (partL b)[j] = 0 + pre (descL b) (j + 1) := psums_get _ _ _ q2
   have := h3 (j + 1)
   omega
theorem ext_rd {x t : List Int} (hl : x.length = t.length) (h : ∀ k : Nat, k < x.length → rd x (k : Int) = rd t (k : Int)) : x = t := by
 refine List.ext_getElem hl fun k h1 h2 => ?_
 have := h k h1
 rw [rdn h1, rdn h2] at this
 exact this
theorem desc_rd {x : List Int} (h : Desc x) {a b : Nat} (hab : a ≤ b) (hb : b < x.length) : rd x (b : Int) ≤ rd x (a : Int) := by
 rw [rdn hb, rdn (show a < x.length by omega)]
 rcases Nat.lt_or_ge a b with hlt | hge
 · unfold Desc at h
   exact List.pairwise_iff_getElem.1 h a b (by omega) hb hlt
 · have : a = b := by omega
   subst this; exact Int.le_refl _
theorem desc_of_rd {x : List Int} (h : ∀ k : Nat, k + 1 < x.length → rd x ((k + 1 : Nat) : Int) ≤ rd x (k : Int)) : Desc x := by
 have key : ∀ (d a : Nat), a + d < x.length → rd x ((a + d : Nat) : Int) ≤ rd x (a : Int) := by
  intro d
  induction d with
  | zero => intro a _; exact Int.le_refl _
  | succ d ih =>
   intro a ha
   have h1 := ih a (by omega)
   have h2 := h (a + d) (by omega)
   have e : a + (d + 1) = a + d + 1 := by omega
   rw [e]
   omega
 unfold Desc
 rw [List.pairwise_iff_getElem]
 intro i j hi hj hij
 have := key (j - i) i (by omega)
 rw [show i + (j - i) = j from by omega, rdn hj, rdn hi] at this
 exact this
structure Nx (x t : List Int) (i j : Nat) : Prop where
 lt : i < j
 hj : j < x.length
 jlt : rd x (j : Int) < rd t (j : Int)
 bef : ∀ k : Nat, k < j → rd t (k : Int) ≤ rd x (k : Int)
 igt : rd t (i : Int) < rd x (i : Int)
 btw : ∀ k : Nat, i < k → k < j → rd x (k : Int) ≤ rd t (k : Int)
theorem least_lt (P : Nat → Prop) (n : Nat) : (∃ k, k < n ∧ P k) → ∃ j, j < n ∧ P j ∧ ∀ k, k < j → ¬ P k := by
 induction n with
 | zero => rintro ⟨k, hk, _⟩; omega
 | succ n ih =>
  rintro ⟨k, hk, hp⟩
  by_cases h : ∃ k, k < n ∧ P k
  · obtain ⟨j, h1, h2, h3⟩ := ih h
    exact ⟨j, by omega, h2, h3⟩
  · refine ⟨k, hk, hp, fun q hq hpq => h ⟨q, by omega, hpq⟩⟩
theorem last_lt (P : Nat → Prop) (n : Nat) : (∃ k, k < n ∧ P k) → ∃ j, j < n ∧ P j ∧ ∀ k, j < k → k < n → ¬ P k := by
 induction n with
 | zero => rintro ⟨k, hk, _⟩; omega
 | succ n ih =>
  rintro ⟨k, hk, hp⟩
  by_cases h : P n
  · exact ⟨n, by omega, h, fun q h1 h2 => by omega⟩
  · have hk' : k < n := by
     rcases Nat.lt_or_ge k n with h' | h'
     · exact h'
     · have : k = n := by omega
       subst this; exact absurd hp h
    obtain ⟨j, h1, h2, h3⟩ := ih ⟨k, hk', hp⟩
    refine ⟨j, by omega, h2, fun q hq hq2 => ?_⟩
    rcases Nat.lt_or_ge q n with h' | h'
    · exact h3 q hq h'
    · have : q = n := by omega
      subst this; exact h
theorem pre_le {x t : List Int} (hl : x.length = t.length) : ∀ m : Nat, m ≤ x.length → (∀ k : Nat, k < m → rd x (k : Int) ≤ rd t (k : Int)) → pre x m ≤ pre t m
 | 0, _, _ => by rw [pre_zero, pre_zero]; exact Int.le_refl _
 | m + 1, hm, h => by
  have ih := pre_le hl m (by omega) (fun k hk => h k (by omega))
  have := h m (by omega)
  rw [pre_succ (by omega), pre_succ (by omega)]
  omega
theorem pre_lt {x t : List Int} (hl : x.length = t.length) : ∀ m : Nat, m ≤ x.length → (∀ k : Nat, k < m → rd x (k : Int) ≤ rd t (k : Int)) → (∃ k : Nat, k < m ∧ rd x (k : Int) < rd t (k : Int)) → pre x m < pre t m
 | 0, _, _, ⟨k, hk, _⟩ => by omega
 | m + 1, hm, h, ⟨k, hk, hk2⟩ => by
  have h2 := h m (by omega)
  rw [pre_succ (by omega), pre_succ (by omega)]
  rcases Nat.lt_or_ge k m with hlt | hge
  · have := pre_lt hl m (by omega) (fun k hk => h k (by omega)) ⟨k, hlt, hk2⟩
    omega
  · have : k = m := by omega
    subst this; have := pre_le hl k (by omega) (fun k hk => h k (by omega))
    omega
theorem nx_exists {x t : List Int} (hd : Dom x t) (hne : x ≠ t) : ∃ i j, Nx x t i j := by
 obtain ⟨hl, hs, hp⟩ := hd
 have h1 : ∃ k : Nat, k < x.length ∧ rd x (k : Int) < rd t (k : Int) := by
  refine Classical.byContradiction fun hno => ?_
  have hge : ∀ k : Nat, k < x.length → rd t (k : Int) ≤ rd x (k : Int) := fun k hk => by
   rcases Int.lt_or_le (rd x (k : Int)) (rd t (k : Int)) with h | h
   · exact absurd ⟨k, hk, h⟩ hno
   · exact h
  refine hne (ext_rd hl fun k hk => ?_)
  rcases Int.lt_or_le (rd t (k : Int)) (rd x (k : Int)) with h | h
  · have := pre_lt hl.symm x.length (by omega) (fun k hk => hge k hk) ⟨k, hk, h⟩
    rw [pre_all (by omega), pre_all (by omega)] at this
    omega
  · have := hge k hk
    omega
 obtain ⟨j, hj, hjlt, hbef⟩ := least_lt _ _ h1
 have hbef' : ∀ k : Nat, k < j → rd t (k : Int) ≤ rd x (k : Int) := fun k hk => by
  have := hbef k hk
  omega
 have h2 : ∃ k : Nat, k < j ∧ rd t (k : Int) < rd x (k : Int) := by
  refine Classical.byContradiction fun hno => ?_
  have hle : ∀ k : Nat, k < j + 1 → rd x (k : Int) ≤ rd t (k : Int) := fun k hk => by
   rcases Nat.lt_or_ge k j with h | h
   · rcases Int.lt_or_le (rd t (k : Int)) (rd x (k : Int)) with h' | h'
     · exact absurd ⟨k, h, h'⟩ hno
     · exact h'
   · have : k = j := by omega
     subst this; omega
  have := pre_lt hl (j + 1) (by omega) hle ⟨j, by omega, hjlt⟩
  have := hp (j + 1)
  omega
 obtain ⟨i, hi, higt, hbtw⟩ := last_lt _ _ h2
 exact ⟨i, j, hi, hj, hjlt, hbef', higt, fun k h1 h2 => by
  have := hbtw k h1 h2
  omega⟩
theorem giveL_length (l : List Int) (f t a : Int) : (giveL l f t a).length = l.length := by
 unfold giveL
 rw [List.length_set, List.length_set]
theorem giveL_rd (l : List Int) (i j : Nat) (a : Int) (hi : i < l.length) (hj : j < l.length) (hij : i ≠ j) (k : Nat) : rd (giveL l (i : Int) (j : Int) a) (k : Int) = if k = j then rd l (j : Int) + a else if k = i then rd l (i : Int) - a else rd l (k : Int) := by
 unfold giveL
 by_cases h1 : k = j
 · subst h1
   rw [if_pos rfl, rd_set_self _ (by omega) (by rw [List.length_set]; omega)]
 · rw [if_neg h1, rd_set_ne _ (by omega) (by omega) (by omega)]
   by_cases h2 : k = i
   · subst h2
     rw [if_pos rfl, rd_set_self _ (by omega) (by omega)]
   · rw [if_neg h2, rd_set_ne _ (by omega) (by omega) (by omega)]
theorem giveL_pre (l : List Int) (i j : Nat) (a : Int) (hi : i < l.length) (hj : j < l.length) (hij : i ≠ j) : ∀ m : Nat, m ≤ l.length → pre (giveL l (i : Int) (j : Int) a) m = pre l m - (if i < m then a else 0) + (if j < m then a else 0)
 | 0, _ => by rw [pre_zero, pre_zero, if_neg (by omega), if_neg (by omega)]; omega
 | m + 1, h => by
  rw [pre_succ (tacs), pre_succ (by omega), giveL_pre l i j a hi hj hij m (by omega), giveL_rd l i j a hi hj hij m]
  by_cases h1 : m = j
  · subst h1
    rw [if_pos rfl, if_neg (show ¬ m < m by omega), if_pos (show m < m + 1 by omega)]
    by_cases h3 : i < m
    · rw [if_pos h3, if_pos (by omega)]; omega
    · rw [if_neg h3, if_neg (by omega)]; omega
  · rw [if_neg h1]
    by_cases h2 : m = i
    · subst h2
      rw [if_pos rfl, if_neg (show ¬ m < m by omega), if_pos (show m < m + 1 by omega)]
      by_cases h3 : j < m
      · rw [if_pos h3, if_pos (by omega)]; omega
      · rw [if_neg h3, if_neg (by omega)]; omega
    · rw [if_neg h2]
      have e1 : i < m + 1 ↔ i < m := by omega
      have e2 : j < m + 1 ↔ j < m := by omega
      simp only [e1, e2]
      omega
theorem giveL_sum (l : List Int) (i j : Nat) (a : Int) (hi : i < l.length) (hj : j < l.length) (hij : i ≠ j) : (giveL l (i : Int) (j : Int) a).sum = l.sum := by
 have h := giveL_pre l i j a hi hj hij l.length (zcb _)
 rw [pre_all (tacs), pre_all (zcb _), if_pos hi, if_pos hj] at h
 omega
theorem allGo_mem {F : Int → List (List Int)} {n s : Int} {x : List Int} (hn : 0 ≤ n) : ∀ t : Nat, x ∈ allGo F n s t ↔ ∃ f : Nat, f ≤ t ∧ (f : Int) * n ≥ s ∧ x ∈ F (f : Int)
 | 0 => by
  unfold allGo
  constructor
  · intro h
    split at h
    · next hc => exact ⟨0, zcb _, by simpa using hc, taaz⟩
    · simp at h
  · rintro ⟨f, hf, hc, hx⟩
    obtain rfl : f = 0 := by omega
    rw [if_pos (by simpa using hc)]
    simpa using hx
 | t + 1 => by
  have ih := allGo_mem (F := F) (s := s) (x := x) hn t
  unfold allGo
  constructor
  · intro h
    split at h
    · next hc =>
      rcases List.mem_append.1 h with h | h
      · exact ⟨t + 1, zcb _, hc, h⟩
      · obtain ⟨f, h1, h2, h3⟩ := ih.1 h
        exact ⟨f, by omega, h2, h3⟩
    · simp at h
  · rintro ⟨f, hf, hc, hx⟩
    have hm : (f : Int) * n ≤ ((t + 1 : Nat) : Int) * n := Int.mul_le_mul_of_nonneg_right (by omega) hn
    rw [if_pos (by omega)]
    by_cases e : f = t + 1
    · subst e
      exact List.mem_append.2 (.inl hx)
    · exact List.mem_append.2 (.inr (ih.2 ⟨f, by omega, hc, hx⟩))
theorem sum_le_of {f : Int} : ∀ y : List Int, (∀ z ∈ y, 0 ≤ z ∧ z ≤ f) → 0 ≤ y.sum ∧ y.sum ≤ f * (y.length : Int)
 | [], _ => by simp
 | z :: y, h => by
  have ih := sum_le_of y (fun w hw => h w (List.mem_cons_of_mem _ hw))
  have := h z List.mem_cons_self
  rw [List.sum_cons, List.length_cons, Int.natCast_succ, Int.mul_add]
  omega
theorem allL_mem : ∀ (n : Nat) (s m : Int) (x : List Int), 0 ≤ s → 0 ≤ m → (x ∈ allL n s m ↔ x.length = n ∧ Desc x ∧ (∀ y ∈ x, 0 ≤ y ∧ y ≤ m) ∧ x.sum = s)
 | 0, s, m, x, hs, hm => by
  unfold allL
  constructor
  · intro h
    split at h
    · next hc =>
      have : x = [] := by simpa using h
      subst this; exact ⟨rfl, List.Pairwise.nil, taac, by simp [hc]⟩
    · simp at h
  · rintro ⟨h1, _, _, h4⟩
    have : x = [] := List.length_eq_zero_iff.1 h1
    subst this; rw [if_pos (by simpa using h4.symm)]
    simp
 | n + 1, s, m, x, hs, hm => by
  unfold allL
  rw [allGo_mem (by omega)]
  constructor
  · rintro ⟨f, hf, hc, hx⟩
    obtain ⟨y, hy, rfl⟩ := List.mem_map.1 hx
    obtain ⟨h1, h2, h3, h4⟩ := (allL_mem n (s - f) f y (by omega) (by omega)).1 hy
    refine ⟨by simp [h1], List.pairwise_cons.2 ⟨fun z hz => (h3 z hz).2, h2⟩, fun z hz => ?_, by rw [List.sum_cons, h4]; omega⟩
    rcases List.mem_cons.1 hz with rfl | hz
    · omega
    · have := h3 z hz
      omega
  · rintro ⟨h1, h2, h3, h4⟩
    cases x with
    | nil => simp at h1
    | cons f y =>
     have hf := h3 f List.mem_cons_self
     have hd := List.pairwise_cons.1 h2
     have hy : ∀ z ∈ y, 0 ≤ z ∧ z ≤ f := fun z hz => ⟨(h3 z (List.mem_cons_of_mem _ hz)).1, hd.1 z hz⟩
     have hl : y.length = n := by simpa using h1
     have hb := sum_le_of y hy
     rw [hl] at hb
     rw [List.sum_cons] at h4
     have e : ((f.toNat : Nat) : Int) = f := by omega
     refine ⟨f.toNat, by omega, ?_, List.mem_map.2 ⟨y, ?_, by rw [e]⟩⟩
     · rw [e, Int.natCast_succ, Int.mul_add]
       omega
     · rw [e]
       exact (allL_mem n (s - f) f y (by omega) hf.1).2 ⟨hl, hd.2, hy, by omega⟩
def lexB : List Int → List Int → Prop
 | x :: a, y :: b => y < x ∨ x = y ∧ lexB a b
 | _, _ => False
theorem lexB_irrefl : ∀ a : List Int, ¬ lexB a a
 | [] => fun h => h
 | x :: a => fun h => by
  rcases h with h | ⟨_, h⟩
  · omega
  · exact lexB_irrefl a h
theorem lexB_trans : ∀ a b c : List Int, lexB a b → lexB b c → lexB a c
 | [], _, _, h, _ => h.elim
 | _ :: _, [], _, h, _ => h.elim
 | _ :: _, _ :: _, [], _, h => h.elim
 | x :: a, y :: b, z :: c, h, k => by
  rcases h with h | ⟨e, h⟩
  · rcases k with k | ⟨e', _⟩
    · exact .inl (by omega)
    · exact .inl (by omega)
  · rcases k with k | ⟨e', k⟩
    · exact .inl (by omega)
    · exact .inr ⟨by omega, lexB_trans a b c h k⟩
theorem lexB_total : ∀ a b : List Int, a.length = b.length → a = b ∨ lexB a b ∨ lexB b a
 | [], [], _ => .inl rfl
 | [], _ :: _, h => by simp at h
 | _ :: _, [], h => by simp at h
 | x :: a, y :: b, h => by
  rcases lexB_total a b (taaz) with e | e | e
  · by_cases hxy : x = y
    · exact .inl (by rw [hxy, e])
    · by_cases hlt : y < x
      · exact .inr (.inl (.inl hlt))
      · exact .inr (.inr (.inl (by omega)))
  · by_cases hxy : x = y
    · exact .inr (.inl (.inr ⟨hxy, e⟩))
    · by_cases hlt : y < x
      · exact .inr (.inl (.inl hlt))
      · exact .inr (.inr (.inl (by omega)))
  · by_cases hxy : x = y
    · exact .inr (.inr (.inr ⟨hxy.symm, e⟩))
    · by_cases hlt : y < x
      · exact .inr (.inl (.inl hlt))
      · exact .inr (.inr (.inl (by omega)))
theorem allGo_sorted {F : Int → List (List Int)} {n s : Int} (hF : ∀ f, (F f).Pairwise lexB) (hh : ∀ f x, x ∈ F f → ∃ y, x = f :: y) : ∀ t : Nat, (allGo F n s t).Pairwise lexB ∧ ∀ x ∈ allGo F n s t, ∃ (f : Int) (y : List Int), f ≤ (t : Int) ∧ x = f :: y
 | 0 => by
  unfold allGo
  split
  · exact ⟨hF 0, fun x hx => by obtain ⟨y, e⟩ := hh 0 x hx; exact ⟨0, y, by omega, e⟩⟩
  · exact ⟨List.Pairwise.nil, taac⟩
 | t + 1 => by
  obtain ⟨i1, i2⟩ := allGo_sorted (n := n) (s := s) hF hh t
  unfold allGo
  split
  · refine ⟨List.pairwise_append.2 ⟨hF _, i1, fun x hx y hy => ?_⟩, fun x hx => ?_⟩
    · obtain ⟨u, rfl⟩ := hh _ x hx
      obtain ⟨f, v, hf, rfl⟩ := i2 y hy
      exact .inl (by omega)
    · rcases List.mem_append.1 hx with hx | hx
      · obtain ⟨u, e⟩ := hh _ x hx
        exact ⟨_, u, Int.le_refl _, e⟩
      · obtain ⟨f, v, hf, e⟩ := i2 x hx
        exact ⟨f, v, by omega, e⟩
  · exact ⟨List.Pairwise.nil, taac⟩
theorem allL_sorted : ∀ (n : Nat) (s m : Int), (allL n s m).Pairwise lexB
 | 0, s, m => by
  unfold allL
  split
  · exact List.pairwise_singleton _ _
  · exact List.Pairwise.nil
 | n + 1, s, m => by
  unfold allL
  refine (allGo_sorted (fun f => List.pairwise_map.2 ((allL_sorted n (s - f) f).imp fun h => .inr ⟨rfl, h⟩)) (fun f x hx => ?_) _).1
  obtain ⟨y, _, rfl⟩ := List.mem_map.1 hx
  exact ⟨y, rfl⟩
def undL (a : List Int) : List (List Int) := (allL a.length a.sum a.sum).filter fun x => majB x a
def belR (a : List Int) : List (List Int) × Bool := if goodL a = true then (if a.sum ≤ 30 then (undL a, true) else ([], false)) else ([], false)
theorem gsum0 {a : List Int} (h : goodL a = true) : 0 ≤ a.sum := by
 have hs := good_sm h; exact (sum_le_of (f := 1000) a hs.2).1
theorem und_mem {a : List Int} (hg : goodL a = true) (x : List Int) : x ∈ undL a ↔ Desc x ∧ (∀ y ∈ x, 0 ≤ y ∧ y ≤ a.sum) ∧ majB x a = true := by
 unfold undL
 rw [List.mem_filter, allL_mem _ _ _ _ (gsum0 hg) (gsum0 hg)]
 constructor
 · rintro ⟨⟨_, h2, h3, _⟩, h5⟩
   exact ⟨h2, h3, h5⟩
 · rintro ⟨h2, h3, h5⟩
   have := (majB_iff x a).1 h5
   exact ⟨⟨this.1, h2, h3, this.2.1⟩, h5⟩
theorem mem_le_sum {f : Int} : ∀ y : List Int, (∀ z ∈ y, 0 ≤ z) → f ∈ y → f ≤ y.sum
 | [], _, h => by simp at h
 | z :: y, h, hf => by
  have hy : 0 ≤ y.sum := by
   clear hf; have := fun w hw => h w (List.mem_cons_of_mem z hw)
   clear h; induction y with
   | nil => simp
   | cons w y ih =>
    have h1 := this w List.mem_cons_self
    have h2 := ih (fun v hv => this v (List.mem_cons_of_mem _ hv))
    rw [List.sum_cons]
    omega
  rw [List.sum_cons]
  rcases List.mem_cons.1 hf with rfl | hf
  · omega
  · have := mem_le_sum y (fun w hw => h w (List.mem_cons_of_mem _ hw)) hf
    have := h z List.mem_cons_self
    omega
theorem maj_rank (a : List Int) : majB (descL a) a = true := (majB_dom _ _).2 (by rw [descL_descL]; exact ⟨rfl, rfl, fun _ => Int.le_refl _⟩)
theorem und_rank {a : List Int} (hg : goodL a = true) : descL a ∈ undL a := by
 have hs := good_sm hg; refine (und_mem hg _).2 ⟨descL_desc a, fun y hy => ?_, maj_rank a⟩
 have hy := descL_mem.1 hy
 exact ⟨(hs.2 y hy).1, mem_le_sum a (fun z hz => (hs.2 z hz).1) hy⟩
theorem und_pos {a : List Int} (hg : goodL a = true) : 0 < (undL a).length := List.length_pos_of_mem (und_rank hg)
theorem good_len {a : List Int} (h : goodL a = true) : 1 ≤ a.length ∧ a.length ≤ 8 := by
 unfold goodL at h
 split at h
 · omega
 · cases h
theorem all_sm {a : List Int} (hg : goodL a = true) (h30 : a.sum ≤ 30) {x : List Int} (hx : x ∈ allL a.length a.sum a.sum) : Sm x := by
 obtain ⟨h1, _, h3, _⟩ := (allL_mem _ _ _ _ (gsum0 hg) (gsum0 hg)).1 hx
 have := good_len hg
 exact ⟨by omega, fun y hy => by have := h3 y hy; omega⟩
theorem und_bd (a : List Int) (hg : goodL a = true) (h30 : a.sum ≤ 30) : (undL a).length ≤ 852891037441 := by
 have h1 := allL_bd (good_len hg).2 (m := a.sum) h30 (gsum0 hg)
 have h2 := List.length_filter_le (fun x => majB x a) (allL a.length a.sum a.sum)
 unfold undL
 omega
theorem und_good {a : List Int} (hg : goodL a = true) (h30 : a.sum ≤ 30) {x : List Int} (hx : x ∈ undL a) : goodL x = true ∧ Sm x ∧ Desc x ∧ x.length = a.length ∧ x.sum = a.sum := by
 obtain ⟨h1, h2, h3⟩ := (und_mem hg x).1 hx
 obtain ⟨e1, e2, _⟩ := (majB_iff x a).1 h3
 have hl := good_len hg; have hs : Sm x := ⟨by omega, fun y hy => by have := h2 y hy; omega⟩
 refine ⟨?_, hs, h1, e1, e2⟩
 unfold goodL inR
 rw [if_pos (by omega), List.all_eq_true]
 intro y hy
 have := h2 y hy
 simp
 omega
theorem implBelow_ev (a : List Int) (hg : goodL a = true) (h30 : a.sum ≤ 30) : Ev (fun k => impl_below.f k a) (undL a) := by
 have hs := good_sm hg; have hl := good_len hg; have h0 := gsum0 hg; unfold impl_below.f
 refine Ev.bind (total_ev a hs) (Ev.bind (implAll_ev a.length hl.2 a.sum a.sum h30 h0 h0) ?_)
 have hpos : 0 < (allL a.length a.sum a.sum).length := by
  have := und_pos hg
  have := List.length_filter_le (fun x => majB x a) (allL a.length a.sum a.sum)
  unfold undL at *
  omega
 obtain ⟨K, hK⟩ : ∃ K, ∀ k, K ≤ k → ∀ x ∈ allL a.length a.sum a.sum, impl_isMajorized.f k x a = some (majB x a) := by
  have : ∀ l : List (List Int), (∀ x ∈ l, Sm x) → ∃ K, ∀ k, K ≤ k → ∀ x ∈ l, impl_isMajorized.f k x a = some (majB x a) := by
   intro l
   induction l with
   | nil => exact fun _ => ⟨0, fun _ _ x hx => by simp at hx⟩
   | cons y l ih =>
    intro hl
    obtain ⟨K1, h1⟩ := ih (fun x hx => hl x (List.mem_cons_of_mem _ hx))
    obtain ⟨K2, h2⟩ := isMajorized_ev y a (hl y List.mem_cons_self) hs
    refine ⟨max K1 K2, fun k hk x hx => ?_⟩
    rcases List.mem_cons.1 hx with rfl | hx
    · exact h2 k (by omega)
    · exact h1 k (by omega) x hx
  exact this _ (fun x hx => all_sm hg h30 hx)
 refine ⟨K, fun k hk => ?_⟩
 have e1 : majAll k a (allL a.length a.sum a.sum) = true := List.all_eq_true.2 fun x hx => by rw [hK k hk x hx]; rfl
 have e2 : majKept k a (allL a.length a.sum a.sum) = undL a := List.filter_congr fun x hx => by rw [hK k hk x hx]; cases majB x a <;> rfl
 show (if 0 < (allL a.length a.sum a.sum).length ∧ majAll k a (allL a.length a.sum a.sum) = true then some (majKept k a (allL a.length a.sum a.sum)) else none) = some (undL a)
 rw [if_pos ⟨hpos, e1⟩, e2]

def totSS (l : List (List Int)) : Nat := (l.map List.length).sum
def allR (n s : Int) : List (List Int) × Bool := if 1 ≤ n ∧ n ≤ 8 then (if 0 ≤ s ∧ s ≤ 30 then (allL n.toNat s s, true) else ([], false)) else ([], false)
theorem allL_most (n : Nat) (s m m' : Int) (h1 : s ≤ m) (h2 : s ≤ m') : allL n s m = allL n s m' := by
 cases n with
 | zero => rfl
 | succ n =>
  unfold allL
  rw [show min s m = s by omega, show min s m' = s by omega]
theorem specAllRankings_ev (n s : Int) : Ev (fun k => spec_AllRankings.f k n s) (allR n s) := by
 unfold spec_AllRankings.f allR
 simp only [l1In_eq, zbe, decide_eq_true_eq]
 refine Ev.ite (fun h => Ev.ite (fun h' => ?_) (fun _ => Ev.now _)) (fun _ => Ev.now _)
 have := specAll_ev n.toNat (by omega) s 60 (by omega) (by omega) (by omega)
 rw [show ((n.toNat : Nat) : Int) = n by omega, allL_most n.toNat s 60 s (by omega) (by omega)] at this
 exact Ev.bind this (Ev.now _)
theorem implAllRankings_ev (n s : Int) : Ev (fun k => impl_AllRankings.f k n s) (allR n s) := by
 unfold impl_AllRankings.f impl_isMany.f allR
 simp only [within_eq, zbe, decide_eq_true_eq]
 refine Ev.ite (fun h => Ev.ite (fun h' => ?_) (fun _ => Ev.now _)) (fun _ => Ev.now _)
 have := implAll_ev n.toNat (by omega) s s (by omega) (by omega) (by omega)
 rw [show ((n.toNat : Nat) : Int) = n by omega] at this
 exact Ev.bind this (Ev.now _)
theorem tot_le {l : List (List Int)} {B : Nat} (h : ∀ x ∈ l, x.length ≤ B) : totSS l ≤ B * l.length := by
 induction l with
 | nil => simp [totSS]
 | cons x l ih =>
  have := ih (fun y hy => h y (List.mem_cons_of_mem _ hy))
  have := h x List.mem_cons_self
  simp only [totSS, zau, List.sum_cons, List.length_cons, Nat.mul_succ] at *
  omega
theorem allR_bd (n s : Int) : (allR n s).1.length ≤ 852891037441 ∧ totSS (allR n s).1 ≤ 8 * 852891037441 := by
 unfold allR
 split
 · split
   · next h h' =>
     have h1 := allL_bd (n := n.toNat) (by omega) (s := s) (m := s) (by omega) (by omega)
     refine ⟨h1, Nat.le_trans (tot_le (B := 8) fun x hx => ?_) (Nat.mul_le_mul_left _ h1)⟩
     have := allL_len _ _ _ x hx
     omega
   · simp [totSS]
 · simp [totSS]
theorem implBelowOf_ev (a : List Int) (ha : a.length ≤ 1048576) : Ev (fun k => impl_BelowOf.f k a) (belR a) := by
 unfold impl_BelowOf.f belR
 refine Ev.bind (implIsList_ev a (by omega)) (Ev.ite (fun hg => ?_) (fun _ => Ev.now _))
 refine Ev.bind (total_ev a (good_sm hg)) ?_
 by_cases h : a.sum ≤ 30
 · simp only [if_pos h, if_neg (show ¬ a.sum > 30 by omega)]
   exact Ev.bind (implBelow_ev a hg h) (Ev.now _)
 · simp only [if_neg h, if_pos (show a.sum > 30 by omega)]
   exact Ev.now _
theorem psums_inj : ∀ (a b : List Int) (s : Int), psums s a = psums s b → a = b
 | [], [], _, _ => rfl
 | [], y :: b, s, h => by simp [psums] at h
 | x :: a, [], s, h => by simp [psums] at h
 | x :: a, y :: b, s, h => by
  simp only [psums, List.cons.injEq] at h
  have e : x = y := by omega
  subst e; rw [psums_inj a b _ h.2]
theorem majB_cmp (a b : List Int) : majB a b = true ↔ a.length = b.length ∧ a.sum = b.sum ∧ ∀ (j : Nat) (h1 : j < (partL a).length) (h2 : j < (partL b).length), (partL a)[j] ≤ (partL b)[j] := by
 unfold majB
 by_cases h : fitB a b = true
 · rw [if_pos h, beq_iff_eq]
   unfold overR
   rw [overL_zero _ _ 0 (by omega)]
   have := (fitB_iff a b).1 h
   exact ⟨fun h' => ⟨this.1, this.2, h'⟩, fun h' => h'.2.2⟩
 · rw [if_neg h]
   exact ⟨fun h' => absurd h' (by decide), fun h' => absurd ((fitB_iff a b).2 ⟨h'.1, h'.2.1⟩) h⟩
theorem maj_both (a b : List Int) : (majB a b = true ∧ majB b a = true) ↔ (fitB a b = true ∧ descL a = descL b) := by
 rw [majB_cmp, majB_cmp, fitB_iff]
 constructor
 · rintro ⟨⟨h1, h2, h3⟩, _, _, h4⟩
   refine ⟨⟨h1, h2⟩, psums_inj _ _ 0 ?_⟩
   refine List.ext_getElem (by rw [psums_length, psums_length, descL_length, descL_length, h1]) (fun j h5 h6 => ?_)
   exact Int.le_antisymm (h3 j h5 h6) (h4 j h6 h5)
 · rintro ⟨⟨h1, h2⟩, h3⟩
   have e : partL a = partL b := by
    unfold partL
    rw [h3]
   refine ⟨⟨h1, h2, ?_⟩, h1.symm, h2.symm, ?_⟩
   · intro j h4 h5
     simp only [e]
     exact Int.le_refl _
   · intro j h4 h5
     simp only [e]
     exact Int.le_refl _
end Go.Proofs.Ytdkimdlbjeobiaa.A
