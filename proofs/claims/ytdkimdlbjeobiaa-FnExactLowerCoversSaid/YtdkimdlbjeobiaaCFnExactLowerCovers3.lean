/- What the law FnExactLowerCovers reaches, part 3: Lean functions with the same answers as the Go functions, the proofs that the Go code comes to these answers, and lemmas about them; no condition beyond those that each theorem names. -/
import Derived.Test.YtdkimdlbjeobiaaCFnExactLowerCoversw1
import Derived.WalkKit
import Derived.ProofKit
import Derived.OpenShut
import Derived.Deep.Matrix
import Derived.Lib.SmallJoins
import Derived.Test.YtdkimdlbjeobiaaCFnExactLowerCovers1
import Derived.Test.YtdkimdlbjeobiaaCFnExactLowerCovers2
/- spec.LowerCovers (printed by wip/mkscovers.py) -/
namespace Go.Proofs.Ytdkimdlbjeobiaa.A
open Go.RowKit Go.Proofs.YtdkimdlbjeobiaaW.PrintWords Go.Proofs.YtdkimdlbjeobiaaW.PrintLast Go.Proofs.YtdkimdlbjeobiaaW.PrintMore
attribute [local go_sem] max2_int min2_int max_two min_two max_three min_three max_four min_four
set_option linter.unusedVariables false
set_option linter.unusedSimpArgs false

mutual
def spec_LowerCovers.j0 : Nat → List Int → Bool → Option ((List (List Int)) × Bool)
 | 0, _, _ => none
 | k + 1, x0, x18 => if x18 = true then (some (([] : List (List Int)), false)) else ((spec_liRank.f k x0).bind fun t347 => ((spec_liGifts.f k t347).bind fun t350 => (spec_LowerCovers.l0 k t350 ([] : List (List Int)) t350 (t350.length : Int) 0)))
def spec_LowerCovers.l0 : Nat → List (List Int) → List (List Int) → List (List Int) → Int → Int → Option ((List (List Int)) × Bool)
 | 0, _, _, _, _, _ => none
 | k + 1, x4, x5, x22, x23, x24 => if x24 < x23 then (if 0 ≤ x24 then (if x24 < (x22.length : Int) then (spec_LowerCovers.l1 k x4 x5 (rd_L1 x22 x24) true x22 x23 x24 x4 (x4.length : Int) 0) else (none)) else (none)) else (some (x5, true))
def spec_LowerCovers.l1 : Nat → List (List Int) → List (List Int) → List Int → Bool → List (List Int) → Int → Int → List (List Int) → Int → Int → Option ((List (List Int)) × Bool)
 | 0, _, _, _, _, _, _, _, _, _, _ => none
 | k + 1, x4, x5, x7, x8, x22, x23, x24, x28, x29, x30 => if x30 < x29 then (if 0 ≤ x30 then (if x30 < (x28.length : Int) then (if x8 = true then ((spec_l1Same.f k x7 (rd_L1 x28 x30)).bind fun t355 => (if t355 = true then (spec_LowerCovers.l1 k x4 x5 x7 true x22 x23 x24 x28 x29 (wrap64 (x30 + 1))) else ((spec_liBelow.f k x7 (rd_L1 x28 x30)).bind fun t356 => (spec_LowerCovers.l1 k x4 x5 x7 (!t356) x22 x23 x24 x28 x29 (wrap64 (x30 + 1)))))) else (spec_LowerCovers.l1 k x4 x5 x7 false x22 x23 x24 x28 x29 (wrap64 (x30 + 1)))) else (none)) else (none)) else (if x8 = true then ((spec_liPut.f k x5 x7).bind fun t357 => (spec_LowerCovers.l0 k x4 t357 x22 x23 (wrap64 (x24 + 1)))) else (spec_LowerCovers.l0 k x4 x5 x22 x23 (wrap64 (x24 + 1))))
end
def spec_LowerCovers.f (k : Nat) (l0 : List Int) : Option ((List (List Int)) × Bool) := (spec_liGood.f k l0).bind fun t345 => (if t345 = true then ((spec_liSum.f k l0).bind fun t346 => (spec_LowerCovers.j0 k l0 (decide (t346 > 30)))) else (spec_LowerCovers.j0 k l0 true))
set_option maxHeartbeats 8000000 in
set_option maxRecDepth 100000 in
theorem spec_LowerCovers.calls (k : Nat) (A0 : Option Addr) (c0 : Nat) (l0 : List Int) (r1 : List (List Int)) (r2 : Bool) (w : World) (hr0 : Kd.C (Kd.int .i64) w A0 l0.length l0) (hc0 : l0.length ≤ c0) (h : spec_LowerCovers.f k l0 = some (r1, r2)) :
 Calls Try.prog 6 #[.slice A0 l0.length c0] w fun e w' => ∃ v0_ : Value, e = .returned (.tuple #[v0_, .bool r2]) ∧ Kd.V (Kd.slice 3 (Kd.int .i64)) 22 w' w.heap.size (fun k_ => (w.heap.size ≤ k_)) v0_ r1 ∧ Below w.heap.size w w' := by
 have HR0 := Aside0.mk hr0
 have HC0 := Aside0.mk hc0
 clear hr0 hc0
 have HB := Aside0.mk (Below.refl w.heap.size w)
 have H : ((spec_liGood.f k l0).bind fun t345 => (if t345 = true then ((spec_liSum.f k l0).bind fun t346 => (spec_LowerCovers.j0 k l0 (decide (t346 > 30)))) else (spec_LowerCovers.j0 k l0 true))) = some (r1, r2) := h
 clear h
 have HC2 := Aside0.mk H
 clear H
 go_enter Try.func6, Try.ntmps6
 go_upto_region 1 with (fail)
 go_cut [18] (fun v18 wc => ∃ (kq : Nat) (x18_1 : Bool), v18 = .bool x18_1 ∧ Aside0 (spec_LowerCovers.j0 kq l0 x18_1 = some (r1, r2)) ∧ Aside0 (kq ≤ k) ∧ Aside0 (Below w.heap.size w wc))
 case first =>
  have H := HC2.out
  clear HC2
  replace H := Option.bind_eq_some_iff.mp H
  obtain ⟨t345, A30, H⟩ := H
  replace H : (if t345 = true then ((spec_liSum.f k l0).bind fun t346 => (spec_LowerCovers.j0 k l0 (decide (t346 > 30)))) else (spec_LowerCovers.j0 k l0 true)) = some (r1, r2) := H
  have A3 := Aside0.mk A30
  clear A30
  by_cases c4 : t345 = true
  · subst c4
    have H1 : ((spec_liSum.f k l0).bind fun t346 => (spec_LowerCovers.j0 k l0 (decide (t346 > 30)))) = some (r1, r2) := by rw [if_pos rfl] at H; exact H
    clear H
    have H := H1
    clear H1
    replace H := Option.bind_eq_some_iff.mp H
    obtain ⟨t346, A50, H⟩ := H
    replace H : (spec_LowerCovers.j0 k l0 (decide (t346 > 30))) = some (r1, r2) := H
    have A5 := Aside0.mk A50
    clear A50
    have H' := Aside0.mk H
    clear H
    go_wp2_with (first | ((with_reducible refine gate_callee (f := 31) rfl ?_); refine goesL_ (some 12) rfl rfl Try.func31 (by kernel_rfl) rfl #[.slice A0 l0.length c0] rfl (by (try simp only [List.map_toArray, List.map_cons, List.map_nil]); first | done | rfl | (simp only [List.length_drop, List.length_take]; rfl)) ?_; (with_reducible refine (spec_liGood.calls k _ _ l0 true _ ?side1 ?side2 A3.out).mono ?_); (case side1 => repeat (first | exact (Kd.C_below HR0.out HB.out) | (with_reducible refine Kd.C_alloc ?_ _) | (with_reducible refine Kd.C_drewN ?_ _) | (with_reducible refine Kd.C_drew ?_))); (case side2 => exact HC0.out); rintro e w' ⟨rfl, ⟨nd, rfl⟩⟩; refine ⟨_, rfl, ?_⟩) | (go_at_call 32; (with_reducible refine (spec_liSum.calls k _ _ l0 t346 _ ?side1 ?side2 A5.out).mono ?_); (case side1 => repeat (first | exact (Kd.C_below HR0.out (by repeat (first | (with_reducible first | exact HB.out | apply below_alloc | apply pw_below_drewN | apply below_drew1) | exact HB.out))) | (with_reducible refine Kd.C_alloc ?_ _) | (with_reducible refine Kd.C_drewN ?_ _) | (with_reducible refine Kd.C_drew ?_))); (case side2 => exact HC0.out); rintro e w' ⟨rfl, ⟨nd, rfl⟩⟩))
    go_meet
    case rel => exact ⟨_, (decide (t346 > 30)), (by first | rfl | (simp; done) | (simp [*]; done)), H', ⟨by first | omega | exact Nat.le_refl _⟩, ⟨by repeat (first | (with_reducible first | exact HB.out | apply below_alloc | apply pw_below_drewN | apply below_drew1) | exact HB.out)⟩⟩
  · replace c4 := Bool.eq_false_iff.mpr c4
    subst c4
    have H1 : (spec_LowerCovers.j0 k l0 true) = some (r1, r2) := by rw [if_neg (show ¬ (false = true) by decide)] at H; exact H
    clear H
    have H := H1
    clear H1
    have H' := Aside0.mk H
    clear H
    go_wp2_with (first | ((with_reducible refine gate_callee (f := 31) rfl ?_); refine goesL_ (some 12) rfl rfl Try.func31 (by kernel_rfl) rfl #[.slice A0 l0.length c0] rfl (by (try simp only [List.map_toArray, List.map_cons, List.map_nil]); first | done | rfl | (simp only [List.length_drop, List.length_take]; rfl)) ?_; (with_reducible refine (spec_liGood.calls k _ _ l0 false _ ?side1 ?side2 A3.out).mono ?_); (case side1 => repeat (first | exact (Kd.C_below HR0.out HB.out) | (with_reducible refine Kd.C_alloc ?_ _) | (with_reducible refine Kd.C_drewN ?_ _) | (with_reducible refine Kd.C_drew ?_))); (case side2 => exact HC0.out); rintro e w' ⟨rfl, ⟨nd, rfl⟩⟩; refine ⟨_, rfl, ?_⟩))
    go_meet
    case rel => exact ⟨_, (true), (by first | rfl | (simp; done) | (simp [*]; done)), H', ⟨by first | omega | exact Nat.le_refl _⟩, ⟨by repeat (first | (with_reducible first | exact HB.out | apply below_alloc | apply pw_below_drewN | apply below_drew1) | exact HB.out)⟩⟩
 case rest =>
  clear HC2
  try clear c1
  try clear p2
  try clear c4
  obtain ⟨kq, x18_1, rfl, HA, HJ1, HB⟩ := hcut
  cases kq with
  | zero => exact absurd HA.out (by simp [spec_LowerCovers.j0])
  | succ kj1 =>
   have H := HA.out
   clear HA
   simp only [spec_LowerCovers.j0] at H
   by_cases c6 : x18_1 = true
   · subst c6
     have H1 : (some (([] : List (List Int)), false)) = some (r1, r2) := by rw [if_pos rfl] at H; exact H
     clear H
     have H := H1
     clear H1
     simp only [Option.some.injEq, Prod.mk.injEq] at H
     obtain ⟨rfl, rfl⟩ := H
     go_wp2
     go_ret2
     exact ⟨_, by first | rfl | (simp [errW_none, errW_some] <;> rfl) | (simp [*, errW_none, errW_some] <;> rfl), by first | exact Kd.V_nil _ _ _ _ _ | exact Kd.N_nil _ _ _ _ _ | exact Kd.V_nil _ _ _ _ _ | exact Kd.Q_nil _ _ _ _ _ | exact Kd.R_nil _ _ _ _ _, by repeat (first | (with_reducible first | exact HB.out | apply below_alloc | apply pw_below_drewN | apply below_drew1) | exact HB.out)⟩
   · replace c6 := Bool.eq_false_iff.mpr c6
     subst c6
     have H1 : ((spec_liRank.f kj1 l0).bind fun t347 => ((spec_liGifts.f kj1 t347).bind fun t350 => (spec_LowerCovers.l0 kj1 t350 ([] : List (List Int)) t350 (t350.length : Int) 0))) = some (r1, r2) := by rw [if_neg (show ¬ (false = true) by decide)] at H; exact H
     clear H
     have H := H1
     clear H1
     replace H := Option.bind_eq_some_iff.mp H
     obtain ⟨t347, A70, H⟩ := H
     replace H : ((spec_liGifts.f kj1 t347).bind fun t350 => (spec_LowerCovers.l0 kj1 t350 ([] : List (List Int)) t350 (t350.length : Int) 0)) = some (r1, r2) := H
     have A7 := Aside0.mk A70
     clear A70
     replace H := Option.bind_eq_some_iff.mp H
     obtain ⟨t350, A80, H⟩ := H
     replace H : (spec_LowerCovers.l0 kj1 t350 ([] : List (List Int)) t350 (t350.length : Int) 0) = some (r1, r2) := H
     have A8 := Aside0.mk A80
     clear A80
     have H' := Aside0.mk H
     clear H
     go_wp2_with (first | ((with_reducible refine gate_callee (f := 34) rfl ?_); refine goesL_ (some 20) rfl rfl Try.func34 (by kernel_rfl) rfl #[.slice A0 l0.length c0] rfl (by (try simp only [List.map_toArray, List.map_cons, List.map_nil]); first | done | rfl | (simp only [List.length_drop, List.length_take]; rfl)) ?_; (with_reducible refine (spec_liRank.calls kj1 _ _ l0 t347 _ ?side1 ?side2 A7.out).mono ?_); (case side1 => repeat (first | exact (Kd.C_below HR0.out HB.out) | (with_reducible refine Kd.C_alloc ?_ _) | (with_reducible refine Kd.C_drewN ?_ _) | (with_reducible refine Kd.C_drew ?_))); (case side2 => exact HC0.out); rintro e w9 ⟨v348, rfl, ho0, hb⟩; refine ⟨_, rfl, ?_⟩; have n0_ := Aside0.mk (Kd.R_lower ho0 (below_size (by repeat (first | (with_reducible first | exact HB.out | apply below_alloc | apply pw_below_drewN | apply below_drew1) | exact HB.out)))); have n1_ := Aside0.mk (below_step (by repeat (first | (with_reducible first | exact HB.out | apply below_alloc | apply pw_below_drewN | apply below_drew1) | exact HB.out)) hb); clear HB; have HO349 := n0_; have HB := n1_; clear n0_ n1_; (try clear hb); (try clear hb2); (try clear hk); (try clear hi); (try clear ho0); obtain ⟨Ao10, co10, eo10⟩ := Kd.R_slice HO349.out; subst eo10) | ((with_reducible refine gate_callee (f := 33) rfl ?_); refine goesL_ (some 21) rfl rfl Try.func33 (by kernel_rfl) rfl #[.slice Ao10 t347.length co10] rfl (by (try simp only [List.map_toArray, List.map_cons, List.map_nil]); first | done | rfl | (simp only [List.length_drop, List.length_take]; rfl)) ?_; (with_reducible refine (spec_liGifts.calls kj1 _ _ t347 t350 _ ?side1 ?side2 A8.out).mono ?_); (case side1 => repeat (first | exact (Kd.R_reads' HO349.out).2.2 | (with_reducible refine Kd.C_alloc ?_ _) | (with_reducible refine Kd.C_drewN ?_ _) | (with_reducible refine Kd.C_drew ?_))); (case side2 => exact (Kd.R_reads' HO349.out).2.1); rintro e w11 ⟨v351, rfl, ho0, hb⟩; refine ⟨_, rfl, ?_⟩; have n0_ := Aside0.mk (Kd.R_below (by (with_reducible repeat (first | apply Kd.R_alloc | apply Kd.R_drewN | apply Kd.R_drew)); exact HO349.out) hb); have n1_ := Aside0.mk (Kd.V_mono (Kd.S_V (base' := w.heap.size) (Kd.S_bound ho0)) (fun k_ hk => Nat.le_trans (below_size (by repeat (first | (with_reducible first | exact HB.out | apply below_alloc | apply pw_below_drewN | apply below_drew1) | exact HB.out))) hk.2.1)); have n2_ := Aside0.mk (below_step (by repeat (first | (with_reducible first | exact HB.out | apply below_alloc | apply pw_below_drewN | apply below_drew1) | exact HB.out)) hb); clear HO349; clear HB; have HO349 := n0_; have HO352 := n1_; have HB := n2_; clear n0_ n1_ n2_; (try clear hb); (try clear hb2); (try clear hk); (try clear hi); (try clear ho0); obtain ⟨Ao12, co12, eo12⟩ := Kd.V_slice HO352.out; subst eo12))
     go_loopg [5, 24] kj1 (fun kq v5 v24 w' => ∃ (x5_2 : List (List Int)) (x24_2 : Int), v24 = .int .i64 x24_2 ∧ Aside0 (spec_LowerCovers.l0 kq t350 x5_2 t350 (t350.length : Int) x24_2 = some (r1, r2)) ∧ Aside0 (kq ≤ kj1) ∧ Aside0 (Kd.V (Kd.slice 3 (Kd.int .i64)) 22 w' w.heap.size (fun k_ => (w.heap.size ≤ k_)) (.slice Ao12 t350.length co12) t350) ∧ Aside0 (Kd.V (Kd.slice 3 (Kd.int .i64)) 22 w' w.heap.size (fun k_ => (w.heap.size ≤ k_)) v5 x5_2) ∧ Aside0 (Kd.V (Kd.slice 3 (Kd.int .i64)) 22 w' w.heap.size (fun k_ => (w.heap.size ≤ k_)) (.slice Ao12 t350.length co12) t350) ∧ Aside0 (Below w.heap.size w w'))
     case atStart => exact ⟨(([] : List (List Int))), (0), (by first | rfl | (simp; done) | (simp [*]; done)), H', ⟨Nat.le_refl _⟩, ⟨by (with_reducible repeat (first | apply Kd.V_alloc | apply Kd.V_drewN | apply Kd.V_drew)); exact HO352.out⟩, ⟨by first | exact Kd.V_nil _ _ _ _ _ | exact Kd.N_nil _ _ _ _ _ | exact Kd.V_nil _ _ _ _ _ | exact Kd.Q_nil _ _ _ _ _ | exact Kd.R_nil _ _ _ _ _⟩, ⟨by (with_reducible repeat (first | apply Kd.V_alloc | apply Kd.V_drewN | apply Kd.V_drew)); exact HO352.out⟩, ⟨by repeat (first | (with_reducible first | exact HB.out | apply below_alloc | apply pw_below_drewN | apply below_drew1) | exact HB.out)⟩⟩
     case round =>
      clear H'
      try clear c1
      try clear c2
      try clear p2
      try clear c4
      try clear c6
      try clear p2
      obtain ⟨x5_2, x24_2, rfl, HA, HK2, HO_4, HO_5, HO_22, HB⟩ := hrel
      cases gk with
      | zero => exact absurd HA.out (by simp [spec_LowerCovers.l0])
      | succ k2 =>
       have H := HA.out
       clear HA
       simp only [spec_LowerCovers.l0] at H
       by_cases c13 : x24_2 < (t350.length : Int)
       · rw [if_pos c13] at H
         have c13b0 : decide (x24_2 < (t350.length : Int)) = true := decide_eq_true c13
         clear c13
         by_cases c14 : 0 ≤ x24_2
         · rw [if_pos c14] at H
           have c14b0 : decide (0 ≤ x24_2) = true := decide_eq_true c14
           clear c14
           by_cases c15 : x24_2 < (t350.length : Int)
           · rw [if_pos c15] at H
             have c15b0 : decide (x24_2 < (t350.length : Int)) = true := decide_eq_true c15
             clear c15
             have H' := Aside0.mk H
             clear H
             have p353 : 0 ≤ (x24_2 : Int) := of_decide_eq_true (by first | (with_reducible assumption) | assumption)
             have q353 : x24_2 < (t350.length : Int) := of_decide_eq_true (by first | (with_reducible assumption) | assumption)
             obtain ⟨ad353, A353_0, c353_0, e353, hx353_0, hl353_0, hi353_0⟩ := at_L1 (Kd.V_reads' HO_22.out).2.2 x24_2 p353 q353
             cases e353
             obtain ⟨ce353, hce353, hMe353, hcc353⟩ := Kd.V_get HO_22.out [] x24_2 p353 (by first | exact q353 | exact of_decide_eq_true (by first | (with_reducible assumption) | assumption) | (have e_ := (Kd.V_reads' HO_22.out).1; omega))
             obtain ⟨ua353_0, uc353_0, rfl, ul353_0, ge353_0⟩ := Kd.FK_slice_open hMe353
             have hv353_0 := hcc353 0 _ rfl
             rw [Nat.add_zero, show ((Kd.slice 3 (Kd.int .i64))).sz = 1 from rfl, Nat.mul_one] at hv353_0
             replace hv353_0 := Option.some.inj (hv353_0.symm.trans hx353_0)
             injection hv353_0 with hva_ hvn_ hvc_
             rw [hva_] at ge353_0
             rw [hvc_] at ul353_0
             have HL353_0 := Aside0.mk (show Kd.V (Kd.int .i64) 3 _ w.heap.size _ _ (rd_L1 t350 x24_2) from Kd.V_mk ul353_0 ge353_0)
             clear hva_ hvn_ hvc_ ge353_0 ul353_0
             clear hcc353 hce353
             have HR353_0 := Aside0.mk hi353_0
             have HC353_0 := Aside0.mk hl353_0
             clear hi353_0 hl353_0
             replace p353 := eq_true p353
             replace q353 := eq_true q353
             go_wp2
             go_loopg [8, 30] k2 (fun kq v8 v30 w' => ∃ (x8_3 : Bool) (x30_3 : Int), v8 = .bool x8_3 ∧ v30 = .int .i64 x30_3 ∧ Aside0 (spec_LowerCovers.l1 kq t350 x5_2 (rd_L1 t350 x24_2) x8_3 t350 (t350.length : Int) x24_2 t350 (t350.length : Int) x30_3 = some (r1, r2)) ∧ Aside0 (kq ≤ k2) ∧ Aside0 (Kd.V (Kd.slice 3 (Kd.int .i64)) 22 w' w.heap.size (fun k_ => (w.heap.size ≤ k_)) (.slice (some ad353) t350.length co12) t350) ∧ Aside0 (Kd.V (Kd.slice 3 (Kd.int .i64)) 22 w' w.heap.size (fun k_ => (w.heap.size ≤ k_)) u5 x5_2) ∧ Aside0 (Kd.V (Kd.slice 3 (Kd.int .i64)) 22 w' w.heap.size (fun k_ => (w.heap.size ≤ k_)) (.slice (some ad353) t350.length co12) t350) ∧ Aside0 (Kd.V (Kd.slice 3 (Kd.int .i64)) 22 w' w.heap.size (fun k_ => (w.heap.size ≤ k_)) (.slice (some ad353) t350.length co12) t350) ∧ Aside0 (Kd.V (Kd.int .i64) 3 w' w.heap.size (fun k_ => (w.heap.size ≤ k_)) (.slice A353_0 (rd_L1 t350 x24_2).length c353_0) (rd_L1 t350 x24_2)) ∧ Aside0 (Below w.heap.size w w'))
             case atStart => exact ⟨(true), (0), (by first | rfl | (simp; done) | (simp [*]; done)), (by first | rfl | (simp; done) | (simp [*]; done)), H', ⟨Nat.le_refl _⟩, ⟨by (with_reducible repeat (first | apply Kd.V_alloc | apply Kd.V_drewN | apply Kd.V_drew)); exact HO_4.out⟩, ⟨by (with_reducible repeat (first | apply Kd.V_alloc | apply Kd.V_drewN | apply Kd.V_drew)); exact HO_5.out⟩, ⟨by (with_reducible repeat (first | apply Kd.V_alloc | apply Kd.V_drewN | apply Kd.V_drew)); exact HO_22.out⟩, ⟨by (with_reducible repeat (first | apply Kd.V_alloc | apply Kd.V_drewN | apply Kd.V_drew)); exact HO_4.out⟩, ⟨by (with_reducible repeat (first | apply Kd.V_alloc | apply Kd.V_drewN | apply Kd.V_drew)); exact HL353_0.out⟩, ⟨by repeat (first | (with_reducible first | exact HB.out | apply below_alloc | apply pw_below_drewN | apply below_drew1) | exact HB.out)⟩⟩
             case round =>
              clear H'
              try clear c1
              try clear c2
              try clear p2
              try clear c3
              try clear p3
              try clear q3
              try clear hx3
              try clear c4
              try clear c6
              try clear c13
              try clear c13b0
              try clear c14
              try clear c14b0
              try clear c15
              try clear c15b0
              try clear hx353_0
              try clear p2
              try clear p353
              try clear q353
              obtain ⟨x8_3, x30_3, rfl, rfl, HA, HK3, HO_4, HO_5, HO_22, HO_28, HL353_0, HB⟩ := hrel
              have HR353_0 := Aside0.mk (Kd.V_reads' HL353_0.out).2.2
              cases gk with
              | zero => exact absurd HA.out (by simp [spec_LowerCovers.l1])
              | succ k3 =>
               have H := HA.out
               clear HA
               simp only [spec_LowerCovers.l1] at H
               by_cases c16 : x30_3 < (t350.length : Int)
               · rw [if_pos c16] at H
                 have c16b0 : decide (x30_3 < (t350.length : Int)) = true := decide_eq_true c16
                 clear c16
                 by_cases c17 : 0 ≤ x30_3
                 · rw [if_pos c17] at H
                   have c17b0 : decide (0 ≤ x30_3) = true := decide_eq_true c17
                   clear c17
                   by_cases c18 : x30_3 < (t350.length : Int)
                   · rw [if_pos c18] at H
                     have c18b0 : decide (x30_3 < (t350.length : Int)) = true := decide_eq_true c18
                     clear c18
                     by_cases c19 : x8_3 = true
                     · subst c19
                       have H1 : ((spec_l1Same.f k3 (rd_L1 t350 x24_2) (rd_L1 t350 x30_3)).bind fun t355 => (if t355 = true then (spec_LowerCovers.l1 k3 t350 x5_2 (rd_L1 t350 x24_2) true t350 (t350.length : Int) x24_2 t350 (t350.length : Int) (wrap64 (x30_3 + 1))) else ((spec_liBelow.f k3 (rd_L1 t350 x24_2) (rd_L1 t350 x30_3)).bind fun t356 => (spec_LowerCovers.l1 k3 t350 x5_2 (rd_L1 t350 x24_2) (!t356) t350 (t350.length : Int) x24_2 t350 (t350.length : Int) (wrap64 (x30_3 + 1)))))) = some (r1, r2) := by rw [if_pos rfl] at H; exact H
                       clear H
                       have H := H1
                       clear H1
                       replace H := Option.bind_eq_some_iff.mp H
                       obtain ⟨t355, A200, H⟩ := H
                       replace H : (if t355 = true then (spec_LowerCovers.l1 k3 t350 x5_2 (rd_L1 t350 x24_2) true t350 (t350.length : Int) x24_2 t350 (t350.length : Int) (wrap64 (x30_3 + 1))) else ((spec_liBelow.f k3 (rd_L1 t350 x24_2) (rd_L1 t350 x30_3)).bind fun t356 => (spec_LowerCovers.l1 k3 t350 x5_2 (rd_L1 t350 x24_2) (!t356) t350 (t350.length : Int) x24_2 t350 (t350.length : Int) (wrap64 (x30_3 + 1))))) = some (r1, r2) := H
                       have A20 := Aside0.mk A200
                       clear A200
                       by_cases c21 : t355 = true
                       · subst c21
                         have H1 : (spec_LowerCovers.l1 k3 t350 x5_2 (rd_L1 t350 x24_2) true t350 (t350.length : Int) x24_2 t350 (t350.length : Int) (wrap64 (x30_3 + 1))) = some (r1, r2) := by rw [if_pos rfl] at H; exact H
                         clear H
                         have H := H1
                         clear H1
                         have H' := Aside0.mk H
                         clear H
                         have p354 : 0 ≤ (x30_3 : Int) := of_decide_eq_true (by first | (with_reducible assumption) | assumption)
                         have q354 : x30_3 < (t350.length : Int) := of_decide_eq_true (by first | (with_reducible assumption) | assumption)
                         obtain ⟨ad354, A354_0, c354_0, e354, hx354_0, hl354_0, hi354_0⟩ := at_L1 (Kd.V_reads' HO_28.out).2.2 x30_3 p354 q354
                         obtain rfl : ad353 = ad354 := (by injection e354)
                         obtain ⟨ce354, hce354, hMe354, hcc354⟩ := Kd.V_get HO_28.out [] x30_3 p354 (by first | exact q354 | exact of_decide_eq_true (by first | (with_reducible assumption) | assumption) | (have e_ := (Kd.V_reads' HO_28.out).1; omega))
                         obtain ⟨ua354_0, uc354_0, rfl, ul354_0, ge354_0⟩ := Kd.FK_slice_open hMe354
                         have hv354_0 := hcc354 0 _ rfl
                         rw [Nat.add_zero, show ((Kd.slice 3 (Kd.int .i64))).sz = 1 from rfl, Nat.mul_one] at hv354_0
                         replace hv354_0 := Option.some.inj (hv354_0.symm.trans hx354_0)
                         injection hv354_0 with hva_ hvn_ hvc_
                         rw [hva_] at ge354_0
                         rw [hvc_] at ul354_0
                         have HL354_0 := Aside0.mk (show Kd.V (Kd.int .i64) 3 _ w.heap.size _ _ (rd_L1 t350 x30_3) from Kd.V_mk ul354_0 ge354_0)
                         clear hva_ hvn_ hvc_ ge354_0 ul354_0
                         clear hcc354 hce354
                         have HR354_0 := Aside0.mk hi354_0
                         have HC354_0 := Aside0.mk hl354_0
                         clear hi354_0 hl354_0
                         replace p354 := eq_true p354
                         replace q354 := eq_true q354
                         go_wp2_with (first | (go_at_call 35; (with_reducible refine (spec_l1Same.calls k3 _ _ (rd_L1 t350 x24_2) _ _ (rd_L1 t350 x30_3) true _ ?side1 ?side2 ?side3 ?side4 A20.out).mono ?_); (case side1 => repeat (first | exact HR353_0.out | (with_reducible refine Kd.C_alloc ?_ _) | (with_reducible refine Kd.C_drewN ?_ _) | (with_reducible refine Kd.C_drew ?_))); (case side2 => exact HC353_0.out); (case side3 => repeat (first | exact (by repeat (first | (with_reducible exact HR354_0.out) | (with_reducible refine Kd.C_alloc ?_ _) | (with_reducible refine Kd.C_drewN ?_ _) | (with_reducible refine Kd.C_drew ?_) | exact HR354_0.out)) | (with_reducible refine Kd.C_alloc ?_ _) | (with_reducible refine Kd.C_drewN ?_ _) | (with_reducible refine Kd.C_drew ?_))); (case side4 => exact HC354_0.out); rintro e w' ⟨rfl, ⟨nd, rfl⟩⟩))
                         go_roundg k3
                         case measure => have := HJ1.out; have := HK2.out; have := HK3.out; omega
                         case rel => exact ⟨(true), (wrap64 (x30_3 + 1)), (by first | rfl | (simp; done) | (simp [*]; done)), (by first | rfl | (simp; done) | (simp [*]; done)), H', ⟨by have := HJ1.out; have := HK2.out; have := HK3.out; omega⟩, ⟨by (with_reducible repeat (first | apply Kd.V_alloc | apply Kd.V_drewN | apply Kd.V_drew)); exact HO_4.out⟩, ⟨by (with_reducible repeat (first | apply Kd.V_alloc | apply Kd.V_drewN | apply Kd.V_drew)); exact HO_5.out⟩, ⟨by (with_reducible repeat (first | apply Kd.V_alloc | apply Kd.V_drewN | apply Kd.V_drew)); exact HO_22.out⟩, ⟨by (with_reducible repeat (first | apply Kd.V_alloc | apply Kd.V_drewN | apply Kd.V_drew)); exact HO_28.out⟩, ⟨by (with_reducible repeat (first | apply Kd.V_alloc | apply Kd.V_drewN | apply Kd.V_drew)); exact HL353_0.out⟩, ⟨by repeat (first | (with_reducible first | exact HB.out | apply below_alloc | apply pw_below_drewN | apply below_drew1) | exact HB.out)⟩⟩
                       · replace c21 := Bool.eq_false_iff.mpr c21
                         subst c21
                         have H1 : ((spec_liBelow.f k3 (rd_L1 t350 x24_2) (rd_L1 t350 x30_3)).bind fun t356 => (spec_LowerCovers.l1 k3 t350 x5_2 (rd_L1 t350 x24_2) (!t356) t350 (t350.length : Int) x24_2 t350 (t350.length : Int) (wrap64 (x30_3 + 1)))) = some (r1, r2) := by rw [if_neg (show ¬ (false = true) by decide)] at H; exact H
                         clear H
                         have H := H1
                         clear H1
                         replace H := Option.bind_eq_some_iff.mp H
                         obtain ⟨t356, A220, H⟩ := H
                         replace H : (spec_LowerCovers.l1 k3 t350 x5_2 (rd_L1 t350 x24_2) (!t356) t350 (t350.length : Int) x24_2 t350 (t350.length : Int) (wrap64 (x30_3 + 1))) = some (r1, r2) := H
                         have A22 := Aside0.mk A220
                         clear A220
                         have H' := Aside0.mk H
                         clear H
                         have p354 : 0 ≤ (x30_3 : Int) := of_decide_eq_true (by first | (with_reducible assumption) | assumption)
                         have q354 : x30_3 < (t350.length : Int) := of_decide_eq_true (by first | (with_reducible assumption) | assumption)
                         obtain ⟨ad354, A354_0, c354_0, e354, hx354_0, hl354_0, hi354_0⟩ := at_L1 (Kd.V_reads' HO_28.out).2.2 x30_3 p354 q354
                         obtain rfl : ad353 = ad354 := (by injection e354)
                         obtain ⟨ce354, hce354, hMe354, hcc354⟩ := Kd.V_get HO_28.out [] x30_3 p354 (by first | exact q354 | exact of_decide_eq_true (by first | (with_reducible assumption) | assumption) | (have e_ := (Kd.V_reads' HO_28.out).1; omega))
                         obtain ⟨ua354_0, uc354_0, rfl, ul354_0, ge354_0⟩ := Kd.FK_slice_open hMe354
                         have hv354_0 := hcc354 0 _ rfl
                         rw [Nat.add_zero, show ((Kd.slice 3 (Kd.int .i64))).sz = 1 from rfl, Nat.mul_one] at hv354_0
                         replace hv354_0 := Option.some.inj (hv354_0.symm.trans hx354_0)
                         injection hv354_0 with hva_ hvn_ hvc_
                         rw [hva_] at ge354_0
                         rw [hvc_] at ul354_0
                         have HL354_0 := Aside0.mk (show Kd.V (Kd.int .i64) 3 _ w.heap.size _ _ (rd_L1 t350 x30_3) from Kd.V_mk ul354_0 ge354_0)
                         clear hva_ hvn_ hvc_ ge354_0 ul354_0
                         clear hcc354 hce354
                         have HR354_0 := Aside0.mk hi354_0
                         have HC354_0 := Aside0.mk hl354_0
                         clear hi354_0 hl354_0
                         replace p354 := eq_true p354
                         replace q354 := eq_true q354
                         go_wp2_with (first | (go_at_call 35; (with_reducible refine (spec_l1Same.calls k3 _ _ (rd_L1 t350 x24_2) _ _ (rd_L1 t350 x30_3) false _ ?side1 ?side2 ?side3 ?side4 A20.out).mono ?_); (case side1 => repeat (first | exact HR353_0.out | (with_reducible refine Kd.C_alloc ?_ _) | (with_reducible refine Kd.C_drewN ?_ _) | (with_reducible refine Kd.C_drew ?_))); (case side2 => exact HC353_0.out); (case side3 => repeat (first | exact (by repeat (first | (with_reducible exact HR354_0.out) | (with_reducible refine Kd.C_alloc ?_ _) | (with_reducible refine Kd.C_drewN ?_ _) | (with_reducible refine Kd.C_drew ?_) | exact HR354_0.out)) | (with_reducible refine Kd.C_alloc ?_ _) | (with_reducible refine Kd.C_drewN ?_ _) | (with_reducible refine Kd.C_drew ?_))); (case side4 => exact HC354_0.out); rintro e w' ⟨rfl, ⟨nd, rfl⟩⟩) | (go_at_call 36; (with_reducible refine (spec_liBelow.calls k3 _ _ (rd_L1 t350 x24_2) _ _ (rd_L1 t350 x30_3) t356 _ ?side1 ?side2 ?side3 ?side4 A22.out).mono ?_); (case side1 => repeat (first | exact (by repeat (first | (with_reducible exact HR353_0.out) | (with_reducible refine Kd.C_alloc ?_ _) | (with_reducible refine Kd.C_drewN ?_ _) | (with_reducible refine Kd.C_drew ?_) | exact HR353_0.out)) | (with_reducible refine Kd.C_alloc ?_ _) | (with_reducible refine Kd.C_drewN ?_ _) | (with_reducible refine Kd.C_drew ?_))); (case side2 => exact HC353_0.out); (case side3 => repeat (first | exact (by repeat (first | (with_reducible exact HR354_0.out) | (with_reducible refine Kd.C_alloc ?_ _) | (with_reducible refine Kd.C_drewN ?_ _) | (with_reducible refine Kd.C_drew ?_) | exact HR354_0.out)) | (with_reducible refine Kd.C_alloc ?_ _) | (with_reducible refine Kd.C_drewN ?_ _) | (with_reducible refine Kd.C_drew ?_))); (case side4 => exact HC354_0.out); rintro e w23 ⟨rfl, hb⟩; have n0_ := Aside0.mk (Kd.V_below (by (with_reducible repeat (first | apply Kd.V_alloc | apply Kd.V_drewN | apply Kd.V_drew)); exact HO_4.out) hb); have n1_ := Aside0.mk (Kd.V_below (by (with_reducible repeat (first | apply Kd.V_alloc | apply Kd.V_drewN | apply Kd.V_drew)); exact HO_5.out) hb); have n2_ := Aside0.mk (Kd.V_below (by (with_reducible repeat (first | apply Kd.V_alloc | apply Kd.V_drewN | apply Kd.V_drew)); exact HO_22.out) hb); have n3_ := Aside0.mk (Kd.V_below (by (with_reducible repeat (first | apply Kd.V_alloc | apply Kd.V_drewN | apply Kd.V_drew)); exact HO_28.out) hb); have n4_ := Aside0.mk (Kd.V_below (by (with_reducible repeat (first | apply Kd.V_alloc | apply Kd.V_drewN | apply Kd.V_drew)); exact HL354_0.out) hb); have nL_ := Aside0.mk (Kd.V_below (by (with_reducible repeat (first | apply Kd.V_alloc | apply Kd.V_drewN | apply Kd.V_drew)); exact HL353_0.out) hb); have n5_ := Aside0.mk (Kd.C_below (by repeat (first | (with_reducible exact HR353_0.out) | (with_reducible refine Kd.C_alloc ?_ _) | (with_reducible refine Kd.C_drewN ?_ _) | (with_reducible refine Kd.C_drew ?_) | exact HR353_0.out)) hb); have n6_ := Aside0.mk (Kd.C_below (by repeat (first | (with_reducible exact HR354_0.out) | (with_reducible refine Kd.C_alloc ?_ _) | (with_reducible refine Kd.C_drewN ?_ _) | (with_reducible refine Kd.C_drew ?_) | exact HR354_0.out)) hb); have n7_ := Aside0.mk (below_step (by repeat (first | (with_reducible first | exact HB.out | apply below_alloc | apply pw_below_drewN | apply below_drew1) | exact HB.out)) hb); clear HO_4; clear HO_5; clear HO_22; clear HO_28; clear HL354_0; clear HR353_0; clear HL353_0; have HL353_0 := nL_; clear nL_; clear HR354_0; clear HB; have HO_4 := n0_; have HO_5 := n1_; have HO_22 := n2_; have HO_28 := n3_; have HL354_0 := n4_; have HR353_0 := n5_; have HR354_0 := n6_; have HB := n7_; clear n0_ n1_ n2_ n3_ n4_ n5_ n6_ n7_; (try clear hb); (try clear hb2); (try clear hk); (try clear hi)))
                         go_roundg k3
                         case measure => have := HJ1.out; have := HK2.out; have := HK3.out; omega
                         case rel => exact ⟨(!t356), (wrap64 (x30_3 + 1)), (by first | rfl | (simp; done) | (simp [*]; done)), (by first | rfl | (simp; done) | (simp [*]; done)), H', ⟨by have := HJ1.out; have := HK2.out; have := HK3.out; omega⟩, ⟨by (with_reducible repeat (first | apply Kd.V_alloc | apply Kd.V_drewN | apply Kd.V_drew)); exact HO_4.out⟩, ⟨by (with_reducible repeat (first | apply Kd.V_alloc | apply Kd.V_drewN | apply Kd.V_drew)); exact HO_5.out⟩, ⟨by (with_reducible repeat (first | apply Kd.V_alloc | apply Kd.V_drewN | apply Kd.V_drew)); exact HO_22.out⟩, ⟨by (with_reducible repeat (first | apply Kd.V_alloc | apply Kd.V_drewN | apply Kd.V_drew)); exact HO_28.out⟩, ⟨by (with_reducible repeat (first | apply Kd.V_alloc | apply Kd.V_drewN | apply Kd.V_drew)); exact HL353_0.out⟩, ⟨by repeat (first | (with_reducible first | exact HB.out | apply below_alloc | apply pw_below_drewN | apply below_drew1) | exact HB.out)⟩⟩
                     · replace c19 := Bool.eq_false_iff.mpr c19
                       subst c19
                       have H1 : (spec_LowerCovers.l1 k3 t350 x5_2 (rd_L1 t350 x24_2) false t350 (t350.length : Int) x24_2 t350 (t350.length : Int) (wrap64 (x30_3 + 1))) = some (r1, r2) := by rw [if_neg (show ¬ (false = true) by decide)] at H; exact H
                       clear H
                       have H := H1
                       clear H1
                       have H' := Aside0.mk H
                       clear H
                       have p354 : 0 ≤ (x30_3 : Int) := of_decide_eq_true (by first | (with_reducible assumption) | assumption)
                       have q354 : x30_3 < (t350.length : Int) := of_decide_eq_true (by first | (with_reducible assumption) | assumption)
                       obtain ⟨ad354, A354_0, c354_0, e354, hx354_0, hl354_0, hi354_0⟩ := at_L1 (Kd.V_reads' HO_28.out).2.2 x30_3 p354 q354
                       obtain rfl : ad353 = ad354 := (by injection e354)
                       obtain ⟨ce354, hce354, hMe354, hcc354⟩ := Kd.V_get HO_28.out [] x30_3 p354 (by first | exact q354 | exact of_decide_eq_true (by first | (with_reducible assumption) | assumption) | (have e_ := (Kd.V_reads' HO_28.out).1; omega))
                       obtain ⟨ua354_0, uc354_0, rfl, ul354_0, ge354_0⟩ := Kd.FK_slice_open hMe354
                       have hv354_0 := hcc354 0 _ rfl
                       rw [Nat.add_zero, show ((Kd.slice 3 (Kd.int .i64))).sz = 1 from rfl, Nat.mul_one] at hv354_0
                       replace hv354_0 := Option.some.inj (hv354_0.symm.trans hx354_0)
                       injection hv354_0 with hva_ hvn_ hvc_
                       rw [hva_] at ge354_0
                       rw [hvc_] at ul354_0
                       have HL354_0 := Aside0.mk (show Kd.V (Kd.int .i64) 3 _ w.heap.size _ _ (rd_L1 t350 x30_3) from Kd.V_mk ul354_0 ge354_0)
                       clear hva_ hvn_ hvc_ ge354_0 ul354_0
                       clear hcc354 hce354
                       have HR354_0 := Aside0.mk hi354_0
                       have HC354_0 := Aside0.mk hl354_0
                       clear hi354_0 hl354_0
                       replace p354 := eq_true p354
                       replace q354 := eq_true q354
                       go_wp2
                       go_roundg k3
                       case measure => have := HJ1.out; have := HK2.out; have := HK3.out; omega
                       case rel => exact ⟨(false), (wrap64 (x30_3 + 1)), (by first | rfl | (simp; done) | (simp [*]; done)), (by first | rfl | (simp; done) | (simp [*]; done)), H', ⟨by have := HJ1.out; have := HK2.out; have := HK3.out; omega⟩, ⟨by (with_reducible repeat (first | apply Kd.V_alloc | apply Kd.V_drewN | apply Kd.V_drew)); exact HO_4.out⟩, ⟨by (with_reducible repeat (first | apply Kd.V_alloc | apply Kd.V_drewN | apply Kd.V_drew)); exact HO_5.out⟩, ⟨by (with_reducible repeat (first | apply Kd.V_alloc | apply Kd.V_drewN | apply Kd.V_drew)); exact HO_22.out⟩, ⟨by (with_reducible repeat (first | apply Kd.V_alloc | apply Kd.V_drewN | apply Kd.V_drew)); exact HO_28.out⟩, ⟨by (with_reducible repeat (first | apply Kd.V_alloc | apply Kd.V_drewN | apply Kd.V_drew)); exact HL353_0.out⟩, ⟨by repeat (first | (with_reducible first | exact HB.out | apply below_alloc | apply pw_below_drewN | apply below_drew1) | exact HB.out)⟩⟩
                   · rw [if_neg c18] at H
                     exact absurd H (by simp)
                 · rw [if_neg c17] at H
                   exact absurd H (by simp)
               · rw [if_neg c16] at H
                 have c16b0 : decide (x30_3 < (t350.length : Int)) = false := decide_eq_false c16
                 clear c16
                 by_cases c24 : x8_3 = true
                 · subst c24
                   have H1 : ((spec_liPut.f k3 x5_2 (rd_L1 t350 x24_2)).bind fun t357 => (spec_LowerCovers.l0 k3 t350 t357 t350 (t350.length : Int) (wrap64 (x24_2 + 1)))) = some (r1, r2) := by rw [if_pos rfl] at H; exact H
                   clear H
                   have H := H1
                   clear H1
                   replace H := Option.bind_eq_some_iff.mp H
                   obtain ⟨t357, A250, H⟩ := H
                   replace H : (spec_LowerCovers.l0 k3 t350 t357 t350 (t350.length : Int) (wrap64 (x24_2 + 1))) = some (r1, r2) := H
                   have A25 := Aside0.mk A250
                   clear A250
                   have H' := Aside0.mk H
                   clear H
                   obtain ⟨Ao5_, co5_, eo5_⟩ := Kd.V_slice HO_5.out
                   subst eo5_
                   go_wp2_with (first | ((with_reducible refine gate_callee (f := 37) rfl ?_); refine goesL_ (some 50) rfl rfl Try.func37 (by kernel_rfl) rfl #[.slice Ao5_ x5_2.length co5_, .slice A353_0 (rd_L1 t350 x24_2).length c353_0] rfl (by (try simp only [List.map_toArray, List.map_cons, List.map_nil]); first | done | rfl | (simp only [List.length_drop, List.length_take]; rfl)) ?_; (with_reducible refine (spec_liPut.calls k3 (fun k_ => (w.heap.size ≤ k_)) _ _ x5_2 (fun k_ => (w.heap.size ≤ k_)) _ _ (rd_L1 t350 x24_2) t357 _ ?side1 ?side2 A25.out).mono ?_); (case side1 => exact (by (with_reducible repeat (first | apply Kd.V_alloc | apply Kd.V_drewN | apply Kd.V_drew)); exact HO_5.out)); (case side2 => exact (by (with_reducible repeat (first | apply Kd.V_alloc | apply Kd.V_drewN | apply Kd.V_drew)); exact HL353_0.out)); rintro e w26 ⟨v358, rfl, ho0, hb⟩; refine ⟨_, rfl, ?_⟩; have n4_ := Aside0.mk (Kd.V_mono (ok' := (fun k_ => (w.heap.size ≤ k_))) ho0 (fun k_ hk => hk.elim (fun hk => hk.elim (fun hk => hk) (fun hk => hk)) (fun hk => Nat.le_trans (below_size (by repeat (first | (with_reducible first | exact HB.out | apply below_alloc | apply pw_below_drewN | apply below_drew1) | exact HB.out))) hk))); have n0_ := Aside0.mk (Kd.V_below (by (with_reducible repeat (first | apply Kd.V_alloc | apply Kd.V_drewN | apply Kd.V_drew)); exact HO_4.out) hb); have n1_ := Aside0.mk (Kd.V_below (by (with_reducible repeat (first | apply Kd.V_alloc | apply Kd.V_drewN | apply Kd.V_drew)); exact HO_5.out) hb); have n2_ := Aside0.mk (Kd.V_below (by (with_reducible repeat (first | apply Kd.V_alloc | apply Kd.V_drewN | apply Kd.V_drew)); exact HO_22.out) hb); have n3_ := Aside0.mk (Kd.V_below (by (with_reducible repeat (first | apply Kd.V_alloc | apply Kd.V_drewN | apply Kd.V_drew)); exact HO_28.out) hb);  have nL_ := Aside0.mk (Kd.V_below (by (with_reducible repeat (first | apply Kd.V_alloc | apply Kd.V_drewN | apply Kd.V_drew)); exact HL353_0.out) hb); have n5_ := Aside0.mk (Kd.C_below (by repeat (first | (with_reducible exact HR353_0.out) | (with_reducible refine Kd.C_alloc ?_ _) | (with_reducible refine Kd.C_drewN ?_ _) | (with_reducible refine Kd.C_drew ?_) | exact HR353_0.out)) hb); have n6_ := Aside0.mk (below_step (by repeat (first | (with_reducible first | exact HB.out | apply below_alloc | apply pw_below_drewN | apply below_drew1) | exact HB.out)) hb); clear HO_4; clear HO_5; clear HO_22; clear HO_28; clear HR353_0; clear HL353_0; have HL353_0 := nL_; clear nL_; clear HB; have HO_4 := n0_; have HO_5 := n1_; have HO_22 := n2_; have HO_28 := n3_; have HO359 := n4_; have HR353_0 := n5_; have HB := n6_; clear n0_ n1_ n2_ n3_ n4_ n5_ n6_; (try clear hb); (try clear hb2); (try clear hk); (try clear hi); (try clear ho0)))
                   go_roundg k3
                   case measure => have := HJ1.out; have := HK2.out; have := HK3.out; omega
                   case rel => exact ⟨(t357), (wrap64 (x24_2 + 1)), (by first | rfl | (simp; done) | (simp [*]; done)), H', ⟨by have := HJ1.out; have := HK2.out; have := HK3.out; omega⟩, ⟨by (with_reducible repeat (first | apply Kd.V_alloc | apply Kd.V_drewN | apply Kd.V_drew)); exact HO_4.out⟩, ⟨by (with_reducible repeat (first | apply Kd.V_alloc | apply Kd.V_drewN | apply Kd.V_drew)); exact HO359.out⟩, ⟨by (with_reducible repeat (first | apply Kd.V_alloc | apply Kd.V_drewN | apply Kd.V_drew)); exact HO_22.out⟩, ⟨by repeat (first | (with_reducible first | exact HB.out | apply below_alloc | apply pw_below_drewN | apply below_drew1) | exact HB.out)⟩⟩
                 · replace c24 := Bool.eq_false_iff.mpr c24
                   subst c24
                   have H1 : (spec_LowerCovers.l0 k3 t350 x5_2 t350 (t350.length : Int) (wrap64 (x24_2 + 1))) = some (r1, r2) := by rw [if_neg (show ¬ (false = true) by decide)] at H; exact H
                   clear H
                   have H := H1
                   clear H1
                   have H' := Aside0.mk H
                   clear H
                   go_wp2
                   go_roundg k3
                   case measure => have := HJ1.out; have := HK2.out; have := HK3.out; omega
                   case rel => exact ⟨(x5_2), (wrap64 (x24_2 + 1)), (by first | rfl | (simp; done) | (simp [*]; done)), H', ⟨by have := HJ1.out; have := HK2.out; have := HK3.out; omega⟩, ⟨by (with_reducible repeat (first | apply Kd.V_alloc | apply Kd.V_drewN | apply Kd.V_drew)); exact HO_4.out⟩, ⟨by (with_reducible repeat (first | apply Kd.V_alloc | apply Kd.V_drewN | apply Kd.V_drew)); exact HO_5.out⟩, ⟨by (with_reducible repeat (first | apply Kd.V_alloc | apply Kd.V_drewN | apply Kd.V_drew)); exact HO_22.out⟩, ⟨by repeat (first | (with_reducible first | exact HB.out | apply below_alloc | apply pw_below_drewN | apply below_drew1) | exact HB.out)⟩⟩
           · rw [if_neg c15] at H
             exact absurd H (by simp)
         · rw [if_neg c14] at H
           exact absurd H (by simp)
       · rw [if_neg c13] at H
         have c13b0 : decide (x24_2 < (t350.length : Int)) = false := decide_eq_false c13
         clear c13
         simp only [Option.some.injEq, Prod.mk.injEq] at H
         obtain ⟨rfl, rfl⟩ := H
         go_wp2
         go_ret2
         exact ⟨_, by first | rfl | (simp [errW_none, errW_some] <;> rfl) | (simp [*, errW_none, errW_some] <;> rfl), by (with_reducible repeat (first | apply Kd.V_alloc | apply Kd.V_drewN | apply Kd.V_drew)); exact HO_5.out, by repeat (first | (with_reducible first | exact HB.out | apply below_alloc | apply pw_below_drewN | apply below_drew1) | exact HB.out)⟩
end Go.Proofs.Ytdkimdlbjeobiaa.A

-- made by a program of this repo (wip/pp.py) through the kit's printer
namespace Go.Proofs.Ytdkimdlbjeobiaa.A
open Go.RowKit Go.Proofs.YtdkimdlbjeobiaaW.PrintWords Go.Proofs.YtdkimdlbjeobiaaW.PrintLast Go.Proofs.YtdkimdlbjeobiaaW.PrintMore
attribute [local go_sem] max2_int min2_int max_two min_two max_three min_three max_four min_four
set_option linter.unusedVariables false
set_option linter.unusedSimpArgs false

/-! ### spec_l1Least: function 48 -/
def spec_l1Least.f (a0 : Int) (a1 : Int) : Option (Int) := if a0 < a1 then (some a0) else (some a1)
end Go.Proofs.Ytdkimdlbjeobiaa.A

-- made by a program of this repo (wip/pp.py) through the kit's printer
namespace Go.Proofs.Ytdkimdlbjeobiaa.A
open Go.RowKit Go.Proofs.YtdkimdlbjeobiaaW.PrintWords Go.Proofs.YtdkimdlbjeobiaaW.PrintLast Go.Proofs.YtdkimdlbjeobiaaW.PrintMore
attribute [local go_sem] max2_int min2_int max_two min_two max_three min_three max_four min_four
set_option linter.unusedVariables false
set_option linter.unusedSimpArgs false

/-! ### spec_liAll: function 67 -/
mutual
def spec_liAll.l0 : Nat → Int → Int → List (List Int) → Int → Option ((List (List Int)))
 | 0, _, _, _, _ => none
 | k + 1, x0, x1, x7, x8 => if (wrap64 (x8 * x0)) ≥ x1 then (spec_liAll.j1 k x0 x1 x7 x8 (decide (x8 ≥ 0))) else (spec_liAll.j1 k x0 x1 x7 x8 false)
def spec_liAll.j1 : Nat → Int → Int → List (List Int) → Int → Bool → Option ((List (List Int)))
 | 0, _, _, _, _, _ => none
 | k + 1, x0, x1, x7, x8, x27 => if x27 = true then ((spec_liAll.f k (wrap64 (x0 - 1)) (wrap64 (x1 - x8)) x8).bind fun t677 => (spec_liAll.l1 k x0 x1 x7 x8 t677 (t677.length : Int) 0)) else (some x7)
def spec_liAll.l1 : Nat → Int → Int → List (List Int) → Int → List (List Int) → Int → Int → Option ((List (List Int)))
 | 0, _, _, _, _, _, _, _ => none
 | k + 1, x0, x1, x7, x8, x36, x37, x38 => if x38 < x37 then (if 0 ≤ x38 then (if x38 < (x36.length : Int) then ((some (([x8] : List Int) : List Int)).bind fun y681 => (if y681.length + (rd_L1 x36 x38).length < 17592186044416 then (if x7.length < 5864062014805 then (spec_liAll.l1 k x0 x1 (x7 ++ [(y681 ++ (rd_L1 x36 x38))]) x8 x36 x37 (wrap64 (x38 + 1))) else (none)) else (none))) else (none)) else (none)) else (spec_liAll.l0 k x0 x1 x7 (wrap64 (x8 - 1)))
def spec_liAll.f : Nat → Int → Int → Int → Option ((List (List Int)))
 | 0, _, _, _ => none
 | k + 1, a0, a1, a2 => if a0 = 0 then (if a1 = 0 then (some (([[]] : List (List Int)))) else (some ([] : List (List Int)))) else ((spec_l1Least.f a1 a2).bind fun t676 => (spec_liAll.l0 k a0 a1 ([] : List (List Int)) t676))
end
end Go.Proofs.Ytdkimdlbjeobiaa.A

namespace Go.Proofs.Ytdkimdlbjeobiaa.A
open Go.RowKit Go.Proofs.YtdkimdlbjeobiaaW.PrintWords Go.Proofs.YtdkimdlbjeobiaaW.PrintLast Go.Proofs.YtdkimdlbjeobiaaW.PrintMore
set_option linter.unusedVariables false
set_option linter.unusedSimpArgs false
end Go.Proofs.Ytdkimdlbjeobiaa.A

namespace Go.Proofs.Ytdkimdlbjeobiaa.A
open Go.RowKit Go.Proofs.YtdkimdlbjeobiaaW.PrintWords Go.Proofs.YtdkimdlbjeobiaaW.PrintLast Go.Proofs.YtdkimdlbjeobiaaW.PrintMore
set_option linter.unusedVariables false
set_option linter.unusedSimpArgs false
/-- The lists that begin with t, t - 1, .. as long as these are big enough. -/
def allGo (F : Int → List (List Int)) (n s : Int) : Nat → List (List Int)
 | 0 => if 0 * n ≥ s then F 0 else []
 | t + 1 => if ((t + 1 : Nat) : Int) * n ≥ s then F ((t + 1 : Nat) : Int) ++ allGo F n s t else []
def allL : Nat → Int → Int → List (List Int)
 | 0, s, _ => if s = 0 then [[]] else []
 | n + 1, s, m => allGo (fun f => (allL n (s - f) f).map (f :: ·)) ((n + 1 : Nat) : Int) s (min s m).toNat
theorem allL_len : ∀ (n : Nat) (s m : Int) (x : List Int), x ∈ allL n s m → x.length = n
 | 0, s, m, x, h => by
  unfold allL at h
  split at h
  · simp at h
    subst h
    rfl
  · simp at h
 | n + 1, s, m, x, h => by
  have key : ∀ (t : Nat), x ∈ allGo (fun f => (allL n (s - f) f).map (f :: ·)) ((n + 1 : Nat) : Int) s t → x.length = n + 1 := by
   intro t
   induction t with
   | zero =>
    intro h
    unfold allGo at h
    split at h
    · obtain ⟨y, hy, rfl⟩ := List.mem_map.1 h
      rw [List.length_cons, allL_len n _ _ y hy]
    · simp at h
   | succ t ih =>
    intro h
    unfold allGo at h
    split at h
    · rcases List.mem_append.1 h with h | h
      · obtain ⟨y, hy, rfl⟩ := List.mem_map.1 h
        rw [List.length_cons, allL_len n _ _ y hy]
      · exact ih h
    · simp at h
  unfold allL at h
  exact key _ h
theorem allL_count : ∀ (n : Nat) (s m : Int), s ≤ 30 → 0 ≤ s → (allL n s m).length ≤ 31 ^ n
 | 0, s, m, _, _ => by
  unfold allL
  split <;> simp
 | n + 1, s, m, hs, h0 => by
  have key : ∀ (t : Nat), (t : Int) ≤ s → (allGo (fun f => (allL n (s - f) f).map (f :: ·)) ((n + 1 : Nat) : Int) s t).length ≤ (t + 1) * 31 ^ n := by
   intro t
   induction t with
   | zero =>
    intro ht
    unfold allGo
    split
    · rw [List.length_map]
      have := allL_count n (s - 0) 0 (by omega) (by omega)
      omega
    · simp
   | succ t ih =>
    intro ht
    unfold allGo
    split
    · rw [List.length_append, List.length_map, Nat.succ_mul]
      have := ih (by omega)
      have := allL_count n (s - ((t + 1 : Nat) : Int)) ((t + 1 : Nat) : Int) (by omega) (by omega)
      omega
    · simp
  unfold allL
  have h1 := key (min s m).toNat (by omega)
  have h2 : ((min s m).toNat + 1) * 31 ^ n ≤ 31 * 31 ^ n := Nat.mul_le_mul_right _ (by omega)
  rw [Nat.pow_succ]
  omega
theorem pow31 {n : Nat} (h : n ≤ 8) : 31 ^ n ≤ 31 ^ 8 := Nat.pow_le_pow_right (by decide) h
theorem allL_bd {n : Nat} (hn : n ≤ 8) {s m : Int} (hs : s ≤ 30) (h0 : 0 ≤ s) : (allL n s m).length ≤ 852891037441 := by
 have h1 := allL_count n s m hs h0
 have h2 := pow31 hn
 have h3 : 31 ^ 8 = 852891037441 := by decide
 omega
theorem rdL {xs : List (List Int)} {i : Nat} (h : i < xs.length) : rd_L1 xs (i : Int) = xs[i] := by
 unfold rd_L1
 rw [Int.toNat_natCast, List.getD_eq_getElem?_getD, List.getElem?_eq_getElem h]
 rfl
end Go.Proofs.Ytdkimdlbjeobiaa.A

namespace Go.Proofs.Ytdkimdlbjeobiaa.A
open Go.RowKit Go.Proofs.YtdkimdlbjeobiaaW.PrintWords Go.Proofs.YtdkimdlbjeobiaaW.PrintLast Go.Proofs.YtdkimdlbjeobiaaW.PrintMore
set_option linter.unusedVariables false
set_option linter.unusedSimpArgs false
theorem mn_eq (a b : Int) : mn a b = min a b := by unfold mn; omega
end Go.Proofs.Ytdkimdlbjeobiaa.A

namespace Go.Proofs.Ytdkimdlbjeobiaa.A
open Go.RowKit Go.Proofs.YtdkimdlbjeobiaaW.PrintWords Go.Proofs.YtdkimdlbjeobiaaW.PrintLast Go.Proofs.YtdkimdlbjeobiaaW.PrintMore
set_option linter.unusedVariables false
set_option linter.unusedSimpArgs false
theorem implAll_l1 (n : Nat) (s f : Int) (rs : List (List Int)) (hr : ∀ x ∈ rs, x.length ≤ 8) (hrl : rs.length ≤ 1000000000000) (r : List (List Int)) : ∀ (d i : Nat) (acc : List (List Int)), i + d = rs.length → acc.length + d ≤ 2000000000000 → Ev (fun k => impl_rankings.l0 k (n : Int) s (acc ++ (rs.drop i).map (f :: ·)) (wrap64 (f - 1))) r → Ev (fun k => impl_rankings.l1 k (n : Int) s acc f rs (rs.length : Int) (i : Int)) r
 | 0, i, acc, h, hb, hR => by
  refine Ev.succ ?_
  simp only [impl_rankings.l1, if_neg (show ¬ (i : Int) < (rs.length : Int) by omega)]
  rw [List.drop_eq_nil_of_le (by omega), List.map_nil, List.append_nil] at hR
  exact hR
 | d + 1, i, acc, h, hb, hR => by
  have hi : i < rs.length := by omega
  have := hr _ (List.getElem_mem hi)
  refine Ev.succ ?_
  simp only [impl_rankings.l1, if_pos (show (i : Int) < (rs.length : Int) by omega), if_pos (show (0 : Int) ≤ (i : Int) by omega), Option.bind_some, rdL hi, if_pos (show ([f] : List Int).length + (rs[i]).length < 17592186044416 by rw [List.length_singleton]; omega), if_pos (show acc.length < 5864062014805 by omega), wsucc hi (by omega)]
  refine implAll_l1 n s f rs hr hrl r d (i + 1) _ (by omega) (by rw [List.length_append, List.length_singleton]; omega) ?_
  rw [List.drop_eq_getElem_cons hi, List.map_cons] at hR
  rw [List.append_assoc]
  exact hR
theorem implAll_ev : ∀ (n : Nat), n ≤ 8 → ∀ (s m : Int), s ≤ 30 → 0 ≤ s → 0 ≤ m → Ev (fun k => impl_rankings.f k (n : Int) s m) (allL n s m)
 | 0, _, s, m, hs, h0, hm => by
  refine Ev.succ ?_
  simp only [impl_rankings.f, if_pos (show ((0 : Nat) : Int) = 0 from rfl), allL]
  exact Ev.ite (fun _ => Ev.now _) (fun _ => Ev.now _)
 | n + 1, hn, s, m, hs, h0, hm => by
  have key : ∀ (t : Nat), (t : Int) ≤ 30 → (t : Int) ≤ s → ∀ acc : List (List Int), acc.length + (t + 1) * 31 ^ n ≤ 900000000000 → Ev (fun k => impl_rankings.l0 k ((n + 1 : Nat) : Int) s acc (t : Int)) (acc ++ allGo (fun f => (allL n (s - f) f).map (f :: ·)) ((n + 1 : Nat) : Int) s t) := by
   have h31 : 31 ^ n ≤ 852891037441 := by
    have h2 := pow31 (show n ≤ 8 by omega)
    have h3 : 31 ^ 8 = 852891037441 := by decide
    omega
   have step : ∀ (t : Nat), (t : Int) ≤ 30 → (t : Int) ≤ s → ∀ acc r, acc.length + (t + 1) * 31 ^ n ≤ 900000000000 → (t : Int) * ((n + 1 : Nat) : Int) ≥ s → Ev (fun k => impl_rankings.l0 k ((n + 1 : Nat) : Int) s (acc ++ (allL n (s - t) t).map ((t : Int) :: ·)) ((t : Int) - 1)) r → Ev (fun k => impl_rankings.l0 k ((n + 1 : Nat) : Int) s acc (t : Int)) r := by
    intro t ht hts acc r hb hc hR
    have hw : wrap64 ((t : Int) * ((n + 1 : Nat) : Int)) = (t : Int) * ((n + 1 : Nat) : Int) := by
     have h1 : (t : Int) * ((n + 1 : Nat) : Int) ≤ 30 * 8 := Int.mul_le_mul ht (by omega) (by omega) (by omega)
     have h2 : 0 ≤ (t : Int) * ((n + 1 : Nat) : Int) := Int.mul_nonneg (by omega) (by omega)
     exact w64 (by omega) (by omega)
    have hcnt := allL_count n (s - t) t (by omega) (by omega)
    rw [Nat.add_mul] at hb
    refine Ev.succ ?_
    simp only [impl_rankings.l0, hw, if_pos (show (t : Int) ≥ 0 by omega), decide_eq_true hc]
    refine Ev.succ ?_
    simp only [impl_rankings.j1, if_true, w64 (x := ((n + 1 : Nat) : Int) - 1) (by omega) (by omega), w64 (x := s - (t : Int)) (by omega) (by omega)]
    rw [show ((n + 1 : Nat) : Int) - 1 = (n : Int) by omega]
    refine Ev.bind (implAll_ev n (by omega) (s - t) t (by omega) (by omega) (by omega)) ?_
    have := implAll_l1 (n + 1) s t (allL n (s - t) t) (fun x hx => by have := allL_len n _ _ x hx; omega) (by omega) r (allL n (s - t) t).length 0 acc (by omega) (by omega)
    rw [List.drop_zero, w64 (x := (t : Int) - 1) (by omega) (by omega)] at this
    exact this hR
   have stop : ∀ (t : Int) acc, 0 ≤ t → t ≤ 30 → ¬ t * ((n + 1 : Nat) : Int) ≥ s → Ev (fun k => impl_rankings.l0 k ((n + 1 : Nat) : Int) s acc t) acc := by
    intro t acc h1 h2 hc
    have hw : wrap64 (t * ((n + 1 : Nat) : Int)) = t * ((n + 1 : Nat) : Int) := by
     have h3 : t * ((n + 1 : Nat) : Int) ≤ 30 * 8 := Int.mul_le_mul h2 (by omega) (by omega) (by omega)
     have h4 : 0 ≤ t * ((n + 1 : Nat) : Int) := Int.mul_nonneg h1 (by omega)
     exact w64 (by omega) (by omega)
    refine Ev.succ ?_
    simp only [impl_rankings.l0, hw, if_pos (show t ≥ 0 from h1), decide_eq_false hc]
    refine Ev.succ ?_
    simp only [impl_rankings.j1, Bool.false_eq_true, if_false]
    exact Ev.now _
   have low : ∀ acc, Ev (fun k => impl_rankings.l0 k ((n + 1 : Nat) : Int) s acc (-1)) acc := by
    intro acc
    refine Ev.succ ?_
    simp only [impl_rankings.l0, if_neg (show ¬ (-1 : Int) ≥ 0 by omega)]
    refine Ev.succ ?_
    simp only [impl_rankings.j1, Bool.false_eq_true, if_false]
    exact Ev.now _
   intro t
   induction t with
   | zero =>
    intro h1 h2 acc hb
    unfold allGo
    by_cases hc : 0 * ((n + 1 : Nat) : Int) ≥ s
    · rw [if_pos hc]
      exact step 0 h1 h2 acc _ hb hc (low _)
    · rw [if_neg hc, List.append_nil]
      exact stop 0 acc (by omega) (by omega) hc
   | succ t ih =>
    intro h1 h2 acc hb
    unfold allGo
    by_cases hc : ((t + 1 : Nat) : Int) * ((n + 1 : Nat) : Int) ≥ s
    · rw [if_pos hc, ← List.append_assoc]
      refine step (t + 1) h1 h2 acc _ hb hc ?_
      rw [show ((t + 1 : Nat) : Int) - 1 = (t : Int) by omega]
      have hcnt := allL_count n (s - ((t + 1 : Nat) : Int)) ((t + 1 : Nat) : Int) (by omega) (by omega)
      refine ih (by omega) (by omega) _ ?_
      rw [List.length_append, List.length_map]
      have e : (t + 1 + 1) * 31 ^ n = (t + 1) * 31 ^ n + 31 ^ n := by rw [Nat.add_mul, Nat.one_mul]
      omega
    · rw [if_neg hc, List.append_nil]
      exact stop _ acc (by omega) h1 hc
  refine Ev.succ ?_
  simp only [impl_rankings.f, if_neg (show ¬ ((n + 1 : Nat) : Int) = 0 by omega), mn_eq, allL]
  have hb : ((min s m).toNat + 1) * 31 ^ n ≤ 31 * 31 ^ n := Nat.mul_le_mul_right _ (by omega)
  have h2 := pow31 (show n + 1 ≤ 8 from hn)
  rw [Nat.pow_succ] at h2
  have h3 : 31 ^ 8 = 852891037441 := by decide
  have := key (min s m).toNat (by omega) (by omega) [] (by rw [List.length_nil]; omega)
  rw [List.nil_append, show (((min s m).toNat : Nat) : Int) = min s m by omega] at this
  exact this
end Go.Proofs.Ytdkimdlbjeobiaa.A

namespace Go.Proofs.Ytdkimdlbjeobiaa.A
open Go.RowKit Go.Proofs.YtdkimdlbjeobiaaW.PrintWords Go.Proofs.YtdkimdlbjeobiaaW.PrintLast Go.Proofs.YtdkimdlbjeobiaaW.PrintMore
set_option linter.unusedVariables false
set_option linter.unusedSimpArgs false
def goodL (xs : List Int) : Bool := if (1 : Int) ≤ xs.length ∧ (xs.length : Int) ≤ 8 then inR 0 60 xs else false
theorem goodL_iff (xs : List Int) : goodL xs = true ↔ 1 ≤ xs.length ∧ xs.length ≤ 8 ∧ ∀ x ∈ xs, 0 ≤ x ∧ x ≤ 60 := by
 unfold goodL inR
 by_cases h : (1 : Int) ≤ xs.length ∧ (xs.length : Int) ≤ 8
 · rw [if_pos h]
   simp only [List.all_eq_true, decide_eq_true_eq]
   exact ⟨fun h' => ⟨by omega, by omega, h'⟩, fun h' => h'.2.2⟩
 · rw [if_neg h]
   constructor
   · intro h'
     cases h'
   · intro h'
     omega
theorem liGood_ev (xs : List Int) (hx : xs.length ≤ 9223372036854775807) : Ev (fun k => spec_liGood.f k xs) (goodL xs) := by
 unfold spec_liGood.f goodL
 simp only [l1In_eq, Option.bind_some, decide_eq_true_eq]
 exact Ev.ite (fun _ => Ev.bind (l1All_ev xs 0 60 hx) (Ev.now _)) (fun _ => Ev.now _)
theorem implIsList_ev (xs : List Int) (hx : xs.length ≤ 9223372036854775807) : Ev (fun k => impl_IsList.f k xs) (goodL xs) := by
 unfold impl_IsList.f goodL
 simp only [within_eq, Option.bind_some, decide_eq_true_eq]
 exact Ev.ite (fun _ => Ev.bind (allWithin_ev xs 0 60 hx) (Ev.now _)) (fun _ => Ev.now _)
end Go.Proofs.Ytdkimdlbjeobiaa.A

namespace Go.Proofs.Ytdkimdlbjeobiaa.A
open Go.RowKit Go.Proofs.YtdkimdlbjeobiaaW.PrintWords Go.Proofs.YtdkimdlbjeobiaaW.PrintLast Go.Proofs.YtdkimdlbjeobiaaW.PrintMore
set_option linter.unusedVariables false
set_option linter.unusedSimpArgs false
/-! Hall's theorem over the numbers below n: sets are functions to Bool -/
def cardB (n : Nat) (S : Nat → Bool) : Nat := (List.range n).countP S
theorem countP_sub {α : Type} (A B D : α → Bool) : ∀ l : List α, (∀ x ∈ l, A x = true → B x = true ∨ D x = true) → l.countP A ≤ l.countP B + l.countP D
 | [], _ => by simp
 | x :: l, h => by
  have ih := countP_sub A B D l (fun y hy => h y (List.mem_cons_of_mem _ hy))
  have hx := h x List.mem_cons_self
  rw [List.countP_cons, List.countP_cons, List.countP_cons]
  cases hA : A x with
  | false => simp only [Bool.false_eq_true, if_false]; omega
  | true =>
   rcases hx hA with hB | hD
   · rw [hB]; simp only [if_true]; omega
   · rw [hD]; simp only [if_true]; omega
theorem countP_two {α : Type} (A B D : α → Bool) : ∀ l : List α, (∀ x ∈ l, B x = true → A x = true ∧ D x = false) → (∀ x ∈ l, D x = true → A x = true) → l.countP B + l.countP D ≤ l.countP A
 | [], _, _ => by simp
 | x :: l, h, k => by
  have ih := countP_two A B D l (fun y hy => h y (List.mem_cons_of_mem _ hy)) (fun y hy => k y (List.mem_cons_of_mem _ hy))
  have hx := h x List.mem_cons_self
  have kx := k x List.mem_cons_self
  rw [List.countP_cons, List.countP_cons, List.countP_cons]
  cases hB : B x with
  | true =>
   obtain ⟨h1, h2⟩ := hx hB
   rw [h1, h2]
   simp only [if_true, Bool.false_eq_true, if_false]
   omega
  | false =>
   cases hD : D x with
   | true =>
    rw [kx hD]
    simp only [if_true, Bool.false_eq_true, if_false]
    omega
   | false =>
    simp only [Bool.false_eq_true, if_false]
    omega
theorem cardB_pos {n : Nat} {S : Nat → Bool} {i : Nat} (hi : i < n) (h : S i = true) : 0 < cardB n S := by
 unfold cardB
 rw [List.countP_pos_iff]
 exact ⟨i, List.mem_range.2 hi, h⟩
theorem cardB_ex {n : Nat} {S : Nat → Bool} (h : 0 < cardB n S) : ∃ i, i < n ∧ S i = true := by
 unfold cardB at h
 rw [List.countP_pos_iff] at h
 obtain ⟨i, hi, hs⟩ := h
 exact ⟨i, List.mem_range.1 hi, hs⟩
theorem cardB_one (n c : Nat) : cardB n (fun j => j == c) ≤ 1 := by
 have h := List.nodup_iff_count.1 (List.nodup_range (n := n)) c
 exact h
theorem cardB_le {n : Nat} {A B : Nat → Bool} (h : ∀ i, i < n → A i = true → B i = true) : cardB n A ≤ cardB n B := List.countP_mono_left fun i hi ha => h i (List.mem_range.1 hi) ha
def nbr (n : Nat) (P : Nat → Nat → Bool) (C S : Nat → Bool) (j : Nat) : Bool := C j && (List.range n).any fun i => S i && P i j
theorem nbr_iff {n : Nat} {P : Nat → Nat → Bool} {C S : Nat → Bool} {j : Nat} : nbr n P C S j = true ↔ C j = true ∧ ∃ i, i < n ∧ S i = true ∧ P i j = true := by
 unfold nbr
 simp only [Bool.and_eq_true, List.any_eq_true, List.mem_range]
theorem hall (n : Nat) (P : Nat → Nat → Bool) : ∀ (m : Nat) (R C : Nat → Bool), cardB n R ≤ m → (∀ S : Nat → Bool, (∀ i, i < n → S i = true → R i = true) → cardB n S ≤ cardB n (nbr n P C S)) → ∃ f : Nat → Nat, (∀ i, i < n → R i = true → f i < n ∧ C (f i) = true ∧ P i (f i) = true) ∧ ∀ i j, i < n → j < n → R i = true → R j = true → f i = f j → i = j
 | 0, R, C, hR, _ => by
  have hno : ∀ i, i < n → R i = true → False := fun i hi h => by have := cardB_pos hi h; omega
  exact ⟨id, fun i hi h => (hno i hi h).elim, fun i j hi _ h _ _ => (hno i hi h).elim⟩
 | m + 1, R, C, hR, hH => by
  by_cases hex : 0 < cardB n R
  · obtain ⟨r, hr, hRr⟩ := cardB_ex hex
    by_cases hB : ∃ S : Nat → Bool, (∀ i, i < n → S i = true → R i = true) ∧ 0 < cardB n S ∧ cardB n S < cardB n R ∧ cardB n (nbr n P C S) ≤ cardB n S
    · obtain ⟨S, hS, h0, h1, h2⟩ := hB
      obtain ⟨f1, a1, b1⟩ := hall n P m S C (by omega) (fun T hT => hH T (fun i hi h => hS i hi (hT i hi h)))
      have hsplit : cardB n (fun i => R i && !S i) + cardB n S ≤ cardB n R := countP_two R (fun i => R i && !S i) S (List.range n) (fun i _ h => by simp only [Bool.and_eq_true, Bool.not_eq_true'] at h; exact h) (fun i hi h => hS i (List.mem_range.1 hi) h)
      obtain ⟨f2, a2, b2⟩ := hall n P m (fun i => R i && !S i) (fun j => C j && !nbr n P C S j) (by omega) (fun T hT => by
       have hT' : ∀ i, i < n → T i = true → R i = true ∧ S i = false := fun i hi h => by have := hT i hi h; simp only [Bool.and_eq_true, Bool.not_eq_true'] at this; exact this
       have e1 : cardB n T + cardB n S ≤ cardB n (fun i => T i || S i) := countP_two (fun i => T i || S i) T S (List.range n) (fun i hi h => ⟨by simp [h], (hT' i (List.mem_range.1 hi) h).2⟩) (fun i _ h => by simp [h])
       have e2 := hH (fun i => T i || S i) (fun i hi h => by
        simp only [Bool.or_eq_true] at h
        rcases h with h | h
        · exact (hT' i hi h).1
        · exact hS i hi h)
       have e3 : cardB n (nbr n P C (fun i => T i || S i)) ≤ cardB n (nbr n P (fun j => C j && !nbr n P C S j) T) + cardB n (nbr n P C S) := countP_sub _ _ _ (List.range n) (fun j _ h => by
        obtain ⟨hc, i, hi, hs, hp⟩ := nbr_iff.1 h
        by_cases hn : nbr n P C S j = true
        · exact .inr hn
        · refine .inl (nbr_iff.2 ⟨by simp only [Bool.and_eq_true, Bool.not_eq_true']; exact ⟨hc, by simpa using hn⟩, i, hi, ?_, hp⟩)
          simp only [Bool.or_eq_true] at hs
          rcases hs with hs | hs
          · exact hs
          · exact (hn (nbr_iff.2 ⟨hc, i, hi, hs, hp⟩)).elim)
       omega)
      have q1 : ∀ i, i < n → S i = true → nbr n P C S (f1 i) = true := fun i hi h => by
       obtain ⟨_, hc, hp⟩ := a1 i hi h
       exact nbr_iff.2 ⟨hc, i, hi, h, hp⟩
      have q2 : ∀ i, i < n → R i = true → ¬ S i = true → f2 i < n ∧ C (f2 i) = true ∧ nbr n P C S (f2 i) = false ∧ P i (f2 i) = true := fun i hi h hs => by
       obtain ⟨u, v, w⟩ := a2 i hi (by simp only [Bool.and_eq_true, Bool.not_eq_true']; exact ⟨h, by simpa using hs⟩)
       simp only [Bool.and_eq_true, Bool.not_eq_true'] at v
       exact ⟨u, v.1, v.2, w⟩
      refine ⟨fun i => if S i = true then f1 i else f2 i, fun i hi h => ?_, fun i j hi hj h k e => ?_⟩
      · show (if S i = true then f1 i else f2 i) < n ∧ C (if S i = true then f1 i else f2 i) = true ∧ P i (if S i = true then f1 i else f2 i) = true
        by_cases hs : S i = true
        · rw [if_pos hs]
          exact a1 i hi hs
        · rw [if_neg hs]
          obtain ⟨u, v, _, w⟩ := q2 i hi h hs
          exact ⟨u, v, w⟩
      · simp only at e
        by_cases hs : S i = true
        · by_cases ht : S j = true
          · rw [if_pos hs, if_pos ht] at e
            exact b1 i j hi hj hs ht e
          · rw [if_pos hs, if_neg ht] at e
            have x1 := q1 i hi hs
            have x2 := (q2 j hj k ht).2.2.1
            rw [e, x2] at x1
            cases x1
        · by_cases ht : S j = true
          · rw [if_neg hs, if_pos ht] at e
            have x1 := q1 j hj ht
            have x2 := (q2 i hi h hs).2.2.1
            rw [← e, x2] at x1
            cases x1
          · rw [if_neg hs, if_neg ht] at e
            exact b2 i j hi hj (by simp only [Bool.and_eq_true, Bool.not_eq_true']; exact ⟨h, by simpa using hs⟩) (by simp only [Bool.and_eq_true, Bool.not_eq_true']; exact ⟨k, by simpa using ht⟩) e
    · have hA : ∀ T : Nat → Bool, (∀ i, i < n → T i = true → R i = true) → 0 < cardB n T → cardB n T < cardB n R → cardB n T + 1 ≤ cardB n (nbr n P C T) := fun T h1 h2 h3 => by
       have : ¬ cardB n (nbr n P C T) ≤ cardB n T := fun h4 => hB ⟨T, h1, h2, h3, h4⟩
       omega
      have hs1 : 0 < cardB n (fun i => i == r) := cardB_pos hr (by simp)
      have hN := hH (fun i => i == r) (fun i _ h => by
       have e : i = r := by simpa using h
       rw [e]
       exact hRr)
      obtain ⟨c, hc, hnc⟩ := cardB_ex (show 0 < cardB n (nbr n P C (fun i => i == r)) by omega)
      obtain ⟨hCc, i0, _, hi0, hP⟩ := nbr_iff.1 hnc
      have ei0 : i0 = r := by simpa using hi0
      subst ei0
      have hsplit : cardB n (fun i => R i && !(i == i0)) + cardB n (fun i => i == i0) ≤ cardB n R := countP_two R (fun i => R i && !(i == i0)) (fun i => i == i0) (List.range n) (fun i _ h => by simp only [Bool.and_eq_true, Bool.not_eq_true'] at h; exact h) (fun i _ h => by
       have e : i = i0 := by simpa using h
       rw [e]
       exact hRr)
      obtain ⟨f1, a1, b1⟩ := hall n P m (fun i => R i && !(i == i0)) (fun j => C j && !(j == c)) (by omega) (fun T hT => by
       by_cases ht0 : 0 < cardB n T
       · have hTR : ∀ i, i < n → T i = true → R i = true := fun i hi h => by have := hT i hi h; simp only [Bool.and_eq_true] at this; exact this.1
         have hle : cardB n T ≤ cardB n (fun i => R i && !(i == i0)) := cardB_le hT
         have g := hA T hTR ht0 (by omega)
         have e3 : cardB n (nbr n P C T) ≤ cardB n (nbr n P (fun j => C j && !(j == c)) T) + cardB n (fun j => j == c) := countP_sub _ _ _ (List.range n) (fun j _ h => by
          obtain ⟨hcj, i, hi, hs, hp⟩ := nbr_iff.1 h
          by_cases e : j = c
          · exact .inr (by simpa using e)
          · exact .inl (nbr_iff.2 ⟨by simp only [Bool.and_eq_true, Bool.not_eq_true']; exact ⟨hcj, by simpa using e⟩, i, hi, hs, hp⟩))
         have := cardB_one n c
         omega
       · omega)
      have q : ∀ i, i < n → R i = true → i ≠ i0 → f1 i < n ∧ C (f1 i) = true ∧ f1 i ≠ c ∧ P i (f1 i) = true := fun i hi h hne => by
       obtain ⟨u, v, w⟩ := a1 i hi (by simp only [Bool.and_eq_true, Bool.not_eq_true']; exact ⟨h, by simpa using hne⟩)
       simp only [Bool.and_eq_true, Bool.not_eq_true'] at v
       exact ⟨u, v.1, by simpa using v.2, w⟩
      refine ⟨fun i => if i = i0 then c else f1 i, fun i hi h => ?_, fun i j hi hj h k e => ?_⟩
      · show (if i = i0 then c else f1 i) < n ∧ C (if i = i0 then c else f1 i) = true ∧ P i (if i = i0 then c else f1 i) = true
        by_cases hs : i = i0
        · rw [if_pos hs, hs]
          exact ⟨hc, hCc, hP⟩
        · rw [if_neg hs]
          obtain ⟨u, v, _, w⟩ := q i hi h hs
          exact ⟨u, v, w⟩
      · simp only at e
        by_cases hs : i = i0
        · by_cases ht : j = i0
          · rw [hs, ht]
          · rw [if_pos hs, if_neg ht] at e
            exact ((q j hj k ht).2.2.1 e.symm).elim
        · by_cases ht : j = i0
          · rw [if_neg hs, if_pos ht] at e
            exact ((q i hi h hs).2.2.1 e).elim
          · rw [if_neg hs, if_neg ht] at e
            exact b1 i j hi hj (by simp only [Bool.and_eq_true, Bool.not_eq_true']; exact ⟨h, by simpa using hs⟩) (by simp only [Bool.and_eq_true, Bool.not_eq_true']; exact ⟨k, by simpa using ht⟩) e
  · have hno : ∀ i, i < n → R i = true → False := fun i hi h => hex (cardB_pos hi h)
    exact ⟨id, fun i hi h => (hno i hi h).elim, fun i j hi _ h _ _ => (hno i hi h).elim⟩
end Go.Proofs.Ytdkimdlbjeobiaa.A

namespace Go.Proofs.Ytdkimdlbjeobiaa.A
open Go.RowKit Go.Proofs.YtdkimdlbjeobiaaW.PrintWords Go.Proofs.YtdkimdlbjeobiaaW.PrintLast Go.Proofs.YtdkimdlbjeobiaaW.PrintMore
set_option linter.unusedVariables false
set_option linter.unusedSimpArgs false
theorem l1Own_eq (l : List Int) (hx : l.length ≤ 1048576) : spec_l1Own.f l = some l := by
 unfold spec_l1Own.f
 simp only [Option.bind_some, List.nil_append, List.length_nil, Nat.zero_add, if_pos (show l.length < 17592186044416 by omega)]
end Go.Proofs.Ytdkimdlbjeobiaa.A

namespace Go.Proofs.Ytdkimdlbjeobiaa.A
open Go.RowKit Go.Proofs.YtdkimdlbjeobiaaW.PrintWords Go.Proofs.YtdkimdlbjeobiaaW.PrintLast Go.Proofs.YtdkimdlbjeobiaaW.PrintMore
set_option linter.unusedVariables false
set_option linter.unusedSimpArgs false
def insD : List Int → Int → List Int
 | [], x => [x]
 | y :: ys, x => if x ≤ y then y :: insD ys x else x :: y :: ys
def Desc (l : List Int) : Prop := l.Pairwise fun x y => y ≤ x
theorem insD_at (x : Int) : ∀ (out : List Int) (j : Nat), j ≤ out.length → (∀ i, i < j → ∀ h : i < out.length, x ≤ out[i]) → (∀ h : j < out.length, ¬ x ≤ out[j]) → insD out x = out.take j ++ [x] ++ out.drop j
 | [], j, hj, _, _ => by simp [insD]
 | y :: ys, 0, _, _, h => by
  have := h (by simp)
  simp only [List.getElem_cons_zero] at this
  simp [insD, this]
 | y :: ys, j + 1, hj, h1, h2 => by
  have h0 := h1 0 (by omega) (by simp)
  simp only [List.getElem_cons_zero] at h0
  have ih := insD_at x ys j (by simpa using hj) (fun i hi h => by have := h1 (i + 1) (by omega) (by simpa using h); simpa using this) (fun h => by have := h2 (by simpa using h); simpa using this)
  simp only [insD, if_pos h0, ih, List.take_succ_cons, List.drop_succ_cons, List.cons_append]
theorem insD_perm (x : Int) : ∀ out : List Int, (insD out x).Perm (x :: out)
 | [] => List.Perm.refl _
 | y :: ys => by
  unfold insD
  split
  · exact ((insD_perm x ys).cons y).trans (List.Perm.swap x y ys)
  · exact List.Perm.refl _
theorem insD_length (x : Int) (out : List Int) : (insD out x).length = out.length + 1 := by
 rw [(insD_perm x out).length_eq, List.length_cons]
theorem insD_desc (x : Int) : ∀ out : List Int, Desc out → Desc (insD out x)
 | [], _ => by simp [insD, Desc]
 | y :: ys, h => by
  unfold insD
  unfold Desc at h
  rw [List.pairwise_cons] at h
  split
  · next hc =>
    unfold Desc
    rw [List.pairwise_cons]
    refine ⟨fun z hz => ?_, insD_desc x ys h.2⟩
    rcases List.mem_cons.1 ((insD_perm x ys).mem_iff.1 hz) with rfl | hz
    · exact hc
    · exact h.1 z hz
  · next hc =>
    unfold Desc
    rw [List.pairwise_cons, List.pairwise_cons]
    refine ⟨fun z hz => ?_, h⟩
    rcases List.mem_cons.1 hz with rfl | hz
    · omega
    · have := h.1 z hz
      omega
theorem descL_perm (l : List Int) : (descL l).Perm l := List.mergeSort_perm l _
theorem descL_desc (l : List Int) : Desc (descL l) := by
 unfold descL Desc
 have h := List.pairwise_mergeSort (le := fun x y : Int => decide (y ≤ x)) (fun a b c h1 h2 => by simp only [decide_eq_true_eq] at *; omega) (fun a b => by simp only [Bool.or_eq_true, decide_eq_true_eq]; omega) l
 exact h.imp (fun h => by simpa using h)
theorem desc_unique {a b : List Int} (h : a.Perm b) (ha : Desc a) (hb : Desc b) : a = b :=
 List.Perm.eq_of_pairwise (le := fun x y : Int => y ≤ x) (fun x y _ _ h1 h2 => by omega) ha hb h
theorem descL_length (l : List Int) : (descL l).length = l.length := (descL_perm l).length_eq
theorem descL_mem {l : List Int} {x : Int} : x ∈ descL l ↔ x ∈ l := (descL_perm l).mem_iff
theorem descL_of_desc {l : List Int} (h : Desc l) : descL l = l := desc_unique (descL_perm l) (descL_desc l) h
theorem descL_descL (l : List Int) : descL (descL l) = descL l := descL_of_desc (descL_desc l)
theorem perm_sum {a b : List Int} (h : a.Perm b) : a.sum = b.sum := by
 induction h with
 | nil => rfl
 | cons x _ ih => simp only [List.sum_cons, ih]
 | swap x y l => simp only [List.sum_cons]; omega
 | trans _ _ ih1 ih2 => exact ih1.trans ih2
theorem descL_sum (l : List Int) : (descL l).sum = l.sum := perm_sum (descL_perm l)
theorem foldl_ins_perm : ∀ (l out : List Int), (l.foldl insD out).Perm (out ++ l)
 | [], out => by simp
 | x :: l, out => by
  rw [List.foldl_cons]
  refine (foldl_ins_perm l (insD out x)).trans ?_
  refine ((insD_perm x out).append_right l).trans ?_
  exact (List.perm_middle (a := x) (l₁ := out) (l₂ := l)).symm
theorem foldl_ins_desc : ∀ (l out : List Int), Desc out → Desc (l.foldl insD out)
 | [], out, h => h
 | x :: l, out, h => by
  rw [List.foldl_cons]
  exact foldl_ins_desc l _ (insD_desc x out h)
theorem foldl_ins (l : List Int) : l.foldl insD [] = descL l :=
 desc_unique ((by simpa using foldl_ins_perm l [] : (l.foldl insD []).Perm l).trans (descL_perm l).symm) (foldl_ins_desc l [] (by simp [Desc])) (descL_desc l)
def Sm (l : List Int) : Prop := l.length ≤ 1000 ∧ ∀ x ∈ l, 0 ≤ x ∧ x ≤ 1000
theorem good_sm {l : List Int} (h : goodL l = true) : Sm l := by
 have := (goodL_iff l).1 h
 exact ⟨by omega, fun x hx => by have := this.2.2 x hx; omega⟩
theorem sm_desc {l : List Int} (h : Sm l) : Sm (descL l) := ⟨by rw [descL_length]; exact h.1, fun x hx => h.2 x (descL_mem.1 hx)⟩
theorem good_desc (l : List Int) : goodL (descL l) = goodL l := by
 rw [Bool.eq_iff_iff, goodL_iff, goodL_iff, descL_length]
 simp only [descL_mem]
theorem ranking_eq {l : List Int} (h : Sm l) : impl_ranking.f l = some (descL l) := by
 unfold impl_ranking.f smallL
 rw [if_pos]
 simp only [Bool.and_eq_true, decide_eq_true_eq, List.all_eq_true]
 exact ⟨by have := h.1; omega, fun x hx => by have := h.2 x hx; omega⟩
theorem liRank_in (l : List Int) (x : Int) (i9 : Int) (out : List Int) (hout : out.length ≤ 1000000) (r : List Int) (hr : Ev (fun k => spec_liRank.l0 k (insD out x) l (l.length : Int) (wrap64 (i9 + 1))) r) :
 ∀ (n j : Nat), j + n = out.length → (∀ i, i < j → ∀ h : i < out.length, x ≤ out[i]) → Ev (fun k => spec_liRank.l1 k out x (j : Int) l (l.length : Int) i9) r
 | 0, j, h, hall => by
  refine Ev.succ ?_
  have e := insD_at x out j (by omega) hall (fun h' => by omega)
  simp only [spec_liRank.l1, if_neg (show ¬ (j : Int) < (out.length : Int) by omega), if_pos (show (0 : Int) ≤ (j : Int) by omega), if_pos (show (j : Int) ≤ (out.length : Int) by omega), Int.toNat_natCast, l1Own_eq (out.take j) (by rw [List.length_take]; omega), Option.bind_some, List.length_append, List.length_take, List.length_drop, List.length_cons, List.length_nil]
  simp only [if_pos (show min j out.length + (0 + 1) < 17592186044416 by omega), if_pos (show min j out.length + (0 + 1) + (out.length - j) < 17592186044416 by omega)]
  rw [e] at hr
  exact hr
 | n + 1, j, h, hall => by
  have hj : j < out.length := by omega
  refine Ev.succ ?_
  by_cases c : x ≤ out[j]
  · simp only [spec_liRank.l1, if_pos (show (j : Int) < (out.length : Int) by omega), if_pos (show (0 : Int) ≤ (j : Int) by omega), rdn hj, if_pos (show out[j] ≥ x from c), wsucc hj (by omega)]
    refine liRank_in l x i9 out hout r hr n (j + 1) (by omega) (fun i hi h' => ?_)
    by_cases e : i = j
    · subst e
      exact c
    · exact hall i (by omega) h'
  · have e := insD_at x out j (by omega) hall (fun h' => c)
    simp only [spec_liRank.l1, if_pos (show (j : Int) < (out.length : Int) by omega), if_pos (show (0 : Int) ≤ (j : Int) by omega), rdn hj, if_neg (show ¬ out[j] ≥ x from c), if_pos (show (j : Int) ≤ (out.length : Int) by omega), Int.toNat_natCast, l1Own_eq (out.take j) (by rw [List.length_take]; omega), Option.bind_some, List.length_append, List.length_take, List.length_drop, List.length_cons, List.length_nil]
    simp only [if_pos (show min j out.length + (0 + 1) < 17592186044416 by omega), if_pos (show min j out.length + (0 + 1) + (out.length - j) < 17592186044416 by omega)]
    rw [e] at hr
    exact hr
theorem liRank_ev (l : List Int) (hx : l.length ≤ 1000000) : Ev (fun k => spec_liRank.f k l) (descL l) := by
 unfold spec_liRank.f
 have h := ev_fold (xs := l) (g := fun k out i => spec_liRank.l0 k out l (l.length : Int) i) insD (fun out i => out.length = i) id
  (fun s _ => Ev.succ (by simp only [spec_liRank.l0, if_neg (Int.lt_irrefl _)]; exact Ev.now _))
  (fun i h s r hs _ hr => Ev.succ (by
   simp only [spec_liRank.l0, if_pos (show (i : Int) < (l.length : Int) by omega), if_pos (show (0 : Int) ≤ (i : Int) by omega), rdn h]
   exact liRank_in l l[i] (i : Int) s (by omega) r (by rw [wsucc h (by omega)]; exact hr) s.length 0 (by omega) (fun j hj => by omega)))
  (fun i h s hs => by rw [insD_length, hs]) l.length 0 [] (by omega) rfl
 rw [List.drop_zero, foldl_ins] at h
 exact h
end Go.Proofs.Ytdkimdlbjeobiaa.A

namespace Go.Proofs.Ytdkimdlbjeobiaa.A
open Go.RowKit Go.Proofs.YtdkimdlbjeobiaaW.PrintWords Go.Proofs.YtdkimdlbjeobiaaW.PrintLast Go.Proofs.YtdkimdlbjeobiaaW.PrintMore
set_option linter.unusedVariables false
set_option linter.unusedSimpArgs false
def psums : Int → List Int → List Int
 | _, [] => []
 | s, x :: l => (s + x) :: psums (s + x) l
def psStep (s : List Int × Int) (x : Int) : List Int × Int := (s.1 ++ [s.2 + x], s.2 + x)
theorem foldl_ps : ∀ (l : List Int) (s : List Int × Int), (l.foldl psStep s).1 = s.1 ++ psums s.2 l
 | [], s => by simp [psums]
 | x :: l, s => by
  rw [List.foldl_cons, foldl_ps l]
  simp [psStep, psums]
theorem psums_length : ∀ (l : List Int) (s : Int), (psums s l).length = l.length
 | [], _ => rfl
 | x :: l, s => by simp [psums, psums_length l]
theorem liSums_ev (l : List Int) (h : Sm l) : Ev (fun k => spec_liSums.f k l) (psums 0 l) := by
 unfold spec_liSums.f
 have hl := h.1
 have h := ev_fold (xs := l) (g := fun k s i => spec_liSums.l0 k s.1 s.2 l (l.length : Int) i) psStep (fun s i => s.1.length = i ∧ 0 ≤ s.2 ∧ s.2 ≤ 1000 * (i : Int)) (fun s => s.1)
  (fun s _ => Ev.succ (by simp only [spec_liSums.l0, if_neg (Int.lt_irrefl _)]; exact Ev.now _))
  (fun i hi s r hs _ hr => Ev.succ (by
   have hb := h.2 _ (List.getElem_mem hi)
   simp only [spec_liSums.l0, if_pos (show (i : Int) < (l.length : Int) by omega), if_pos (show (0 : Int) ≤ (i : Int) by omega), rdn hi, if_pos (show s.1.length < 17592186044416 by omega), wsucc hi (by omega), w64 (x := s.2 + l[i]) (by omega) (by omega)]
   exact hr))
  (fun i hi s hs => by
   have hb := h.2 _ (List.getElem_mem hi)
   simp only [psStep, List.length_append, List.length_cons, List.length_nil]
   omega) l.length 0 ([], 0) (by omega) (by simp)
 rw [List.drop_zero, foldl_ps] at h
 exact h
theorem partial_l (l : List Int) (h : Sm l) : Ev (fun k => impl_partial.l0 k [] 0 l (l.length : Int) 0) (psums 0 l) := by
 have hl := h.1
 have h := ev_fold (xs := l) (g := fun k s i => impl_partial.l0 k s.1 s.2 l (l.length : Int) i) psStep (fun s i => s.1.length = i ∧ 0 ≤ s.2 ∧ s.2 ≤ 1000 * (i : Int)) (fun s => s.1)
  (fun s _ => Ev.succ (by simp only [impl_partial.l0, if_neg (Int.lt_irrefl _)]; exact Ev.now _))
  (fun i hi s r hs _ hr => Ev.succ (by
   have hb := h.2 _ (List.getElem_mem hi)
   simp only [impl_partial.l0, if_pos (show (i : Int) < (l.length : Int) by omega), if_pos (show (0 : Int) ≤ (i : Int) by omega), rdn hi, if_pos (show s.1.length < 17592186044416 by omega), wsucc hi (by omega), w64 (x := s.2 + l[i]) (by omega) (by omega)]
   exact hr))
  (fun i hi s hs => by
   have hb := h.2 _ (List.getElem_mem hi)
   simp only [psStep, List.length_append, List.length_cons, List.length_nil]
   omega) l.length 0 ([], 0) (by omega) (by simp)
 rw [List.drop_zero, foldl_ps] at h
 exact h
def partL (l : List Int) : List Int := psums 0 (descL l)
theorem liPartial_ev (l : List Int) (h : Sm l) : Ev (fun k => spec_liPartial.f k l) (partL l) := by
 unfold spec_liPartial.f
 exact Ev.bind (liRank_ev l (by have := h.1; omega)) (Ev.bind (liSums_ev _ (sm_desc h)) (Ev.now _))
theorem partial_ev (l : List Int) (h : Sm l) : Ev (fun k => impl_partial.f k l) (partL l) := by
 unfold impl_partial.f
 simp only [ranking_eq h, Option.bind_some]
 exact partial_l _ (sm_desc h)
theorem partL_length (l : List Int) : (partL l).length = l.length := by
 unfold partL
 rw [psums_length, descL_length]
end Go.Proofs.Ytdkimdlbjeobiaa.A

-- made by a program of this repo (wip/pp.py) through the kit's printer
namespace Go.Proofs.Ytdkimdlbjeobiaa.A
open Go.RowKit Go.Proofs.YtdkimdlbjeobiaaW.PrintWords Go.Proofs.YtdkimdlbjeobiaaW.PrintLast Go.Proofs.YtdkimdlbjeobiaaW.PrintMore
attribute [local go_sem] max2_int min2_int max_two min_two max_three min_three max_four min_four
set_option linter.unusedVariables false
set_option linter.unusedSimpArgs false

end Go.Proofs.Ytdkimdlbjeobiaa.A

namespace Go.Proofs.Ytdkimdlbjeobiaa.A
open Go.RowKit Go.Proofs.YtdkimdlbjeobiaaW.PrintWords Go.Proofs.YtdkimdlbjeobiaaW.PrintLast Go.Proofs.YtdkimdlbjeobiaaW.PrintMore
set_option linter.unusedVariables false
set_option linter.unusedSimpArgs false
theorem foldl_add : ∀ (l : List Int) (s : Int), l.foldl (fun s x => s + x) s = s + l.sum
 | [], s => by simp
 | x :: l, s => by
  rw [List.foldl_cons, foldl_add l, List.sum_cons]
  omega
end Go.Proofs.Ytdkimdlbjeobiaa.A

namespace Go.Proofs.Ytdkimdlbjeobiaa.A
open Go.RowKit Go.Proofs.YtdkimdlbjeobiaaW.PrintWords Go.Proofs.YtdkimdlbjeobiaaW.PrintLast Go.Proofs.YtdkimdlbjeobiaaW.PrintMore
set_option linter.unusedVariables false
set_option linter.unusedSimpArgs false
theorem liSum_ev (l : List Int) (h : Sm l) : Ev (fun k => spec_liSum.f k l) l.sum := by
 unfold spec_liSum.f
 have hl := h.1
 have h := ev_fold (xs := l) (g := fun k s i => spec_liSum.l0 k s l (l.length : Int) i) (fun s x => s + x) (fun s i => 0 ≤ s ∧ s ≤ 1000 * (i : Int)) id
  (fun s _ => Ev.succ (by simp only [spec_liSum.l0, if_neg (Int.lt_irrefl _)]; exact Ev.now _))
  (fun i hi s r hs _ hr => Ev.succ (by
   have hb := h.2 _ (List.getElem_mem hi)
   simp only [spec_liSum.l0, if_pos (show (i : Int) < (l.length : Int) by omega), if_pos (show (0 : Int) ≤ (i : Int) by omega), rdn hi, wsucc hi (by omega), w64 (x := s + l[i]) (by omega) (by omega)]
   exact hr))
  (fun i hi s hs => by
   have hb := h.2 _ (List.getElem_mem hi)
   omega) l.length 0 0 (by omega) (by omega)
 rw [List.drop_zero, foldl_add, Int.zero_add] at h
 exact h
theorem total_ev (l : List Int) (h : Sm l) : Ev (fun k => impl_total.f k l) l.sum := by
 unfold impl_total.f
 have hl := h.1
 have h := ev_fold (xs := l) (g := fun k s i => impl_total.l0 k s l (l.length : Int) i) (fun s x => s + x) (fun s i => 0 ≤ s ∧ s ≤ 1000 * (i : Int)) id
  (fun s _ => Ev.succ (by simp only [impl_total.l0, if_neg (Int.lt_irrefl _)]; exact Ev.now _))
  (fun i hi s r hs _ hr => Ev.succ (by
   have hb := h.2 _ (List.getElem_mem hi)
   simp only [impl_total.l0, if_pos (show (i : Int) < (l.length : Int) by omega), if_pos (show (0 : Int) ≤ (i : Int) by omega), rdn hi, wsucc hi (by omega), w64 (x := s + l[i]) (by omega) (by omega)]
   exact hr))
  (fun i hi s hs => by
   have hb := h.2 _ (List.getElem_mem hi)
   omega) l.length 0 0 (by omega) (by omega)
 rw [List.drop_zero, foldl_add, Int.zero_add] at h
 exact h
def fitB (a b : List Int) : Bool := if (a.length : Int) = (b.length : Int) then (a.sum == b.sum) else false
theorem fitB_iff (a b : List Int) : fitB a b = true ↔ a.length = b.length ∧ a.sum = b.sum := by
 unfold fitB
 by_cases h : (a.length : Int) = (b.length : Int)
 · rw [if_pos h, beq_iff_eq]
   exact ⟨fun h' => ⟨by omega, h'⟩, fun h' => h'.2⟩
 · rw [if_neg h]
   exact ⟨fun h' => absurd h' (by decide), fun h' => absurd h'.1 (by omega)⟩
theorem liFit_ev (a b : List Int) (ha : Sm a) (hb : Sm b) : Ev (fun k => spec_liFit.f k a b) (fitB a b) := by
 unfold spec_liFit.f fitB
 exact Ev.ite (fun _ => Ev.bind (liSum_ev a ha) (Ev.bind (liSum_ev b hb) (Ev.now _))) (fun _ => Ev.now _)
theorem doFit_ev (a b : List Int) (ha : Sm a) (hb : Sm b) : Ev (fun k => impl_doFit.f k a b) (fitB a b) := by
 unfold impl_doFit.f fitB
 exact Ev.ite (fun _ => Ev.bind (total_ev a ha) (Ev.bind (total_ev b hb) (Ev.now _))) (fun _ => Ev.now _)
end Go.Proofs.Ytdkimdlbjeobiaa.A

namespace Go.Proofs.Ytdkimdlbjeobiaa.A
open Go.RowKit Go.Proofs.YtdkimdlbjeobiaaW.PrintWords Go.Proofs.YtdkimdlbjeobiaaW.PrintLast Go.Proofs.YtdkimdlbjeobiaaW.PrintMore
set_option linter.unusedVariables false
set_option linter.unusedSimpArgs false
def overL : Int → List Int → List Int → Int
 | i, x :: xs, y :: ys => if x > y then i + 1 else overL (i + 1) xs ys
 | _, _, _ => 0
theorem liOver_l (p q : List Int) (h : p.length ≤ q.length) (hp : p.length ≤ 1000000) : ∀ (n i : Nat), i + n = p.length → Ev (fun k => spec_liOver.l0 k p q (p.length : Int) (i : Int)) (overL (i : Int) (p.drop i) (q.drop i))
 | 0, i, hi => by
  refine Ev.succ ?_
  simp only [spec_liOver.l0, if_neg (show ¬ (i : Int) < (p.length : Int) by omega)]
  rw [List.drop_eq_nil_of_le (by omega), overL]
  exact Ev.now _
  simp
 | n + 1, i, hi => by
  have h1 : i < p.length := by omega
  have h2 : i < q.length := by omega
  refine Ev.succ ?_
  simp only [spec_liOver.l0, if_pos (show (i : Int) < (p.length : Int) by omega), if_pos (show (i : Int) < (q.length : Int) by omega), if_pos (show (0 : Int) ≤ (i : Int) by omega), rdn h1, rdn h2, wsucc h1 (by omega)]
  rw [List.drop_eq_getElem_cons h1, List.drop_eq_getElem_cons h2, overL]
  refine Ev.ite (fun _ => ?_) (fun _ => ?_)
  · rw [show ((i : Int) + 1) = ((i + 1 : Nat) : Int) by omega]
    exact Ev.now _
  · rw [show ((i : Int) + 1) = ((i + 1 : Nat) : Int) by omega]
    exact liOver_l p q h hp n (i + 1) (by omega)
theorem refused_l (p q : List Int) (h : p.length ≤ q.length) (hp : p.length ≤ 1000000) : ∀ (n i : Nat), i + n = p.length → Ev (fun k => impl_refused.l0 k q p (p.length : Int) (i : Int)) (overL (i : Int) (p.drop i) (q.drop i))
 | 0, i, hi => by
  refine Ev.succ ?_
  simp only [impl_refused.l0, if_neg (show ¬ (i : Int) < (p.length : Int) by omega)]
  rw [List.drop_eq_nil_of_le (by omega), overL]
  exact Ev.now _
  simp
 | n + 1, i, hi => by
  have h1 : i < p.length := by omega
  have h2 : i < q.length := by omega
  refine Ev.succ ?_
  simp only [impl_refused.l0, if_pos (show (i : Int) < (p.length : Int) by omega), if_pos (show (i : Int) < (q.length : Int) by omega), if_pos (show (0 : Int) ≤ (i : Int) by omega), rdn h1, rdn h2, wsucc h1 (by omega)]
  rw [List.drop_eq_getElem_cons h1, List.drop_eq_getElem_cons h2, overL]
  refine Ev.ite (fun _ => ?_) (fun _ => ?_)
  · rw [show ((i : Int) + 1) = ((i + 1 : Nat) : Int) by omega]
    exact Ev.now _
  · rw [show ((i : Int) + 1) = ((i + 1 : Nat) : Int) by omega]
    exact refused_l p q h hp n (i + 1) (by omega)
def overR (a b : List Int) : Int := overL 0 (partL a) (partL b)
theorem liOver_ev (a b : List Int) (ha : Sm a) (hb : Sm b) (h : a.length ≤ b.length) : Ev (fun k => spec_liOver.f k a b) (overR a b) := by
 unfold spec_liOver.f
 exact Ev.bind (liPartial_ev a ha) (Ev.bind (liPartial_ev b hb) (liOver_l _ _ (by rw [partL_length, partL_length]; exact h) (by rw [partL_length]; have := ha.1; omega) (partL a).length 0 (by omega)))
theorem refused_ev (a b : List Int) (ha : Sm a) (hb : Sm b) (h : a.length ≤ b.length) : Ev (fun k => impl_refused.f k a b) (overR a b) := by
 unfold impl_refused.f
 exact Ev.bind (partial_ev b hb) (Ev.bind (partial_ev a ha) (refused_l _ _ (by rw [partL_length, partL_length]; exact h) (by rw [partL_length]; have := ha.1; omega) (partL a).length 0 (by omega)))
theorem overL_zero : ∀ (p q : List Int) (i : Int), 0 ≤ i → (overL i p q = 0 ↔ ∀ (j : Nat) (h1 : j < p.length) (h2 : j < q.length), p[j] ≤ q[j])
 | [], q, i, _ => by simp [overL]
 | x :: p, [], i, _ => by simp [overL]
 | x :: p, y :: q, i, h => by
  unfold overL
  by_cases c : x > y
  · rw [if_pos c]
    refine ⟨fun h' => by omega, fun h' => ?_⟩
    have := h' 0 (by simp) (by simp)
    simp only [List.getElem_cons_zero] at this
    omega
  · rw [if_neg c, overL_zero p q (i + 1) (by omega)]
    constructor
    · intro h' j h1 h2
      cases j with
      | zero => simp only [List.getElem_cons_zero]; omega
      | succ j =>
       rw [List.getElem_cons_succ, List.getElem_cons_succ]
       exact h' j (by rw [List.length_cons] at h1; omega) (by rw [List.length_cons] at h2; omega)
    · intro h' j h1 h2
      have h3 := h' (j + 1) (by rw [List.length_cons]; omega) (by rw [List.length_cons]; omega)
      rw [List.getElem_cons_succ, List.getElem_cons_succ] at h3
      exact h3
def majB (a b : List Int) : Bool := if fitB a b = true then (overR a b == 0) else false
theorem liBelow_ev (a b : List Int) (ha : Sm a) (hb : Sm b) : Ev (fun k => spec_liBelow.f k a b) (majB a b) := by
 unfold spec_liBelow.f majB
 exact Ev.bind (liFit_ev a b ha hb) (Ev.ite (fun h => Ev.bind (liOver_ev a b ha hb (by have := (fitB_iff a b).1 h; omega)) (Ev.now _)) (fun _ => Ev.now _))
theorem isMajorized_ev (a b : List Int) (ha : Sm a) (hb : Sm b) : Ev (fun k => impl_isMajorized.f k a b) (majB a b) := by
 unfold impl_isMajorized.f majB
 exact Ev.bind (doFit_ev a b ha hb) (Ev.ite (fun h => Ev.bind (refused_ev a b ha hb (by have := (fitB_iff a b).1 h; omega)) (Ev.now _)) (fun _ => Ev.now _))
theorem majB_iff (a b : List Int) : majB a b = true ↔ a.length = b.length ∧ a.sum = b.sum ∧ ∀ (j : Nat) (h1 : j < (partL a).length) (h2 : j < (partL b).length), (partL a)[j] ≤ (partL b)[j] := by
 unfold majB overR
 by_cases h : fitB a b = true
 · rw [if_pos h, beq_iff_eq, overL_zero _ _ _ (Int.le_refl _)]
   have := (fitB_iff a b).1 h
   simp only [this, true_and]
 · rw [if_neg h]
   rw [fitB_iff] at h
   constructor
   · intro h'
     exact absurd h' (by decide)
   · intro h'
     exact absurd ⟨h'.1, h'.2.1⟩ h
end Go.Proofs.Ytdkimdlbjeobiaa.A

namespace Go.Proofs.Ytdkimdlbjeobiaa.A
open Go.RowKit Go.Proofs.YtdkimdlbjeobiaaW.PrintWords Go.Proofs.YtdkimdlbjeobiaaW.PrintLast Go.Proofs.YtdkimdlbjeobiaaW.PrintMore
set_option linter.unusedVariables false
set_option linter.unusedSimpArgs false
def isG (l : List Int) (f t a : Int) : Bool := decide ((0 ≤ f ∧ f ≤ (l.length : Int) - 1) ∧ (0 ≤ t ∧ t ≤ (l.length : Int) - 1) ∧ f ≠ t ∧ 1 ≤ a)
theorem isG_iff (l : List Int) (f t a : Int) : isG l f t a = true ↔ (0 ≤ f ∧ f < l.length) ∧ (0 ≤ t ∧ t < l.length) ∧ f ≠ t ∧ 1 ≤ a := by
 unfold isG
 rw [decide_eq_true_eq]
 omega
theorem rd_good {l : List Int} (hg : goodL l = true) {i : Int} (h0 : 0 ≤ i) (h1 : i < l.length) : 0 ≤ rd l i ∧ rd l i ≤ 60 := by
 have h := ((goodL_iff l).1 hg).2.2
 have hi : i.toNat < l.length := by omega
 have e : rd l i = l[i.toNat] := rdi h0 h1
 rw [e]
 exact h _ (List.getElem_mem hi)
def kindB (l : List Int) (f t a : Int) : Bool := isG l f t a && (decide (a ≤ 60) && decide (rd l t + a ≤ rd l f - a))
def giveL (l : List Int) (f t a : Int) : List Int := (l.set f.toNat (rd l f - a)).set t.toNat (rd l t + a)
theorem rd_set_ne {l : List Int} {i j : Int} (x : Int) (h0 : 0 ≤ i) (h1 : 0 ≤ j) (h : i ≠ j) : rd (l.set i.toNat x) j = rd l j := by
 unfold rd
 rw [List.getD_eq_getElem?_getD, List.getD_eq_getElem?_getD, List.getElem?_set_ne (by omega)]
theorem rd_set_self {l : List Int} {i : Int} (x : Int) (h0 : 0 ≤ i) (h1 : i < l.length) : rd (l.set i.toNat x) i = x := by
 unfold rd
 rw [List.getD_eq_getElem?_getD, List.getElem?_set_self (by omega)]
 rfl
theorem rd_mem {l : List Int} {i : Int} (h0 : 0 ≤ i) (h1 : i < l.length) : rd l i ∈ l := by
 have hi : i.toNat < l.length := by omega
 have e : rd l i = l[i.toNat] := rdi h0 h1
 rw [e]
 exact List.getElem_mem hi
/-- Whether what is behind a gift is a list. -/
theorem give_good (l : List Int) (f t x y : Int) (hg : goodL l = true) (h1 : 0 ≤ f ∧ f < l.length) (h2 : 0 ≤ t ∧ t < l.length) (h3 : f ≠ t) : goodL ((l.set f.toNat x).set t.toNat y) = true ↔ (0 ≤ x ∧ x ≤ 60) ∧ 0 ≤ y ∧ y ≤ 60 := by
 have hb := (goodL_iff l).1 hg
 rw [goodL_iff]
 simp only [List.length_set]
 constructor
 · intro h
   have e1 : rd ((l.set f.toNat x).set t.toNat y) f = x := by rw [rd_set_ne _ h2.1 h1.1 (Ne.symm h3), rd_set_self _ h1.1 h1.2]
   have e2 : rd ((l.set f.toNat x).set t.toNat y) t = y := rd_set_self _ h2.1 (by rw [List.length_set]; exact h2.2)
   have m1 := h.2.2 _ (rd_mem (l := (l.set f.toNat x).set t.toNat y) h1.1 (by simp only [List.length_set]; exact h1.2))
   have m2 := h.2.2 _ (rd_mem (l := (l.set f.toNat x).set t.toNat y) h2.1 (by simp only [List.length_set]; exact h2.2))
   rw [e1] at m1
   rw [e2] at m2
   exact ⟨m1, m2⟩
 · rintro ⟨hx, hy⟩
   refine ⟨hb.1, hb.2.1, fun z hz => ?_⟩
   rcases List.mem_or_eq_of_mem_set hz with hz | rfl
   · rcases List.mem_or_eq_of_mem_set hz with hz | rfl
     · exact hb.2.2 z hz
     · exact hx
   · exact hy
end Go.Proofs.Ytdkimdlbjeobiaa.A

namespace Go.Proofs.Ytdkimdlbjeobiaa.A
open Go.RowKit Go.Proofs.YtdkimdlbjeobiaaW.PrintWords Go.Proofs.YtdkimdlbjeobiaaW.PrintLast Go.Proofs.YtdkimdlbjeobiaaW.PrintMore
set_option linter.unusedVariables false
set_option linter.unusedSimpArgs false
def pre (x : List Int) (m : Nat) : Int := (x.take m).sum
theorem pre_zero (x : List Int) : pre x 0 = 0 := rfl
theorem pre_succ {x : List Int} {m : Nat} (h : m < x.length) : pre x (m + 1) = pre x m + rd x (m : Int) := by
 unfold pre
 rw [List.take_succ_eq_append_getElem h, List.sum_append, rdn h, List.sum_cons, List.sum_nil, Int.add_zero]
theorem pre_all {x : List Int} {m : Nat} (h : x.length ≤ m) : pre x m = x.sum := by
 unfold pre
 rw [List.take_of_length_le h]
theorem psums_get : ∀ (l : List Int) (s : Int) (j : Nat) (h : j < (psums s l).length), (psums s l)[j] = s + pre l (j + 1)
 | [], s, j, h => by simp [psums] at h
 | x :: l, s, 0, h => by simp [psums, pre]
 | x :: l, s, j + 1, h => by
  have h' : j < (psums (s + x) l).length := by
   rw [psums, List.length_cons] at h
   omega
  have := psums_get l (s + x) j h'
  simp only [psums, List.getElem_cons_succ]
  rw [this]
  simp only [pre, List.take_succ_cons, List.sum_cons]
  omega
/-- Every partial sum of t is at most that of x; the sums are one. -/
def Dom (x t : List Int) : Prop := x.length = t.length ∧ x.sum = t.sum ∧ ∀ m, pre t m ≤ pre x m
theorem majB_dom (a b : List Int) : majB a b = true ↔ Dom (descL b) (descL a) := by
 rw [majB_iff]
 unfold Dom
 rw [descL_length, descL_length, descL_sum, descL_sum]
 constructor
 · rintro ⟨h1, h2, h3⟩
   refine ⟨h1.symm, h2.symm, fun m => ?_⟩
   cases m with
   | zero => rw [pre_zero, pre_zero]; exact Int.le_refl _
   | succ m =>
    by_cases hm : m < a.length
    · have h := h3 m (by rw [partL_length]; exact hm) (by rw [partL_length]; omega)
      unfold partL at h
      rw [psums_get, psums_get] at h
      omega
    · rw [pre_all (by rw [descL_length]; omega), pre_all (by rw [descL_length]; omega), descL_sum, descL_sum]
      omega
 · rintro ⟨h1, h2, h3⟩
   refine ⟨h1.symm, h2.symm, fun j q1 q2 => ?_⟩
   have e1 : (partL a)[j] = 0 + pre (descL a) (j + 1) := psums_get _ _ _ q1
   have e2 : (partL b)[j] = 0 + pre (descL b) (j + 1) := psums_get _ _ _ q2
   have := h3 (j + 1)
   omega
theorem ext_rd {x t : List Int} (hl : x.length = t.length) (h : ∀ k : Nat, k < x.length → rd x (k : Int) = rd t (k : Int)) : x = t := by
 refine List.ext_getElem hl fun k h1 h2 => ?_
 have := h k h1
 rw [rdn h1, rdn h2] at this
 exact this
theorem desc_rd {x : List Int} (h : Desc x) {a b : Nat} (hab : a ≤ b) (hb : b < x.length) : rd x (b : Int) ≤ rd x (a : Int) := by
 rw [rdn hb, rdn (show a < x.length by omega)]
 rcases Nat.lt_or_ge a b with hlt | hge
 · unfold Desc at h
   exact List.pairwise_iff_getElem.1 h a b (by omega) hb hlt
 · have : a = b := by omega
   subst this
   exact Int.le_refl _
theorem desc_of_rd {x : List Int} (h : ∀ k : Nat, k + 1 < x.length → rd x ((k + 1 : Nat) : Int) ≤ rd x (k : Int)) : Desc x := by
 have key : ∀ (d a : Nat), a + d < x.length → rd x ((a + d : Nat) : Int) ≤ rd x (a : Int) := by
  intro d
  induction d with
  | zero => intro a _; exact Int.le_refl _
  | succ d ih =>
   intro a ha
   have h1 := ih a (by omega)
   have h2 := h (a + d) (by omega)
   have e : a + (d + 1) = a + d + 1 := by omega
   rw [e]
   omega
 unfold Desc
 rw [List.pairwise_iff_getElem]
 intro i j hi hj hij
 have := key (j - i) i (by omega)
 rw [show i + (j - i) = j from by omega, rdn hj, rdn hi] at this
 exact this
/-- Where the next gift of a path goes: the first number that is too small, and the last too large one ahead of it. -/
structure Nx (x t : List Int) (i j : Nat) : Prop where
 lt : i < j
 hj : j < x.length
 jlt : rd x (j : Int) < rd t (j : Int)
 bef : ∀ k : Nat, k < j → rd t (k : Int) ≤ rd x (k : Int)
 igt : rd t (i : Int) < rd x (i : Int)
 btw : ∀ k : Nat, i < k → k < j → rd x (k : Int) ≤ rd t (k : Int)
theorem least_lt (P : Nat → Prop) (n : Nat) : (∃ k, k < n ∧ P k) → ∃ j, j < n ∧ P j ∧ ∀ k, k < j → ¬ P k := by
 induction n with
 | zero => rintro ⟨k, hk, _⟩; omega
 | succ n ih =>
  rintro ⟨k, hk, hp⟩
  by_cases h : ∃ k, k < n ∧ P k
  · obtain ⟨j, h1, h2, h3⟩ := ih h
    exact ⟨j, by omega, h2, h3⟩
  · refine ⟨k, hk, hp, fun q hq hpq => h ⟨q, by omega, hpq⟩⟩
theorem last_lt (P : Nat → Prop) (n : Nat) : (∃ k, k < n ∧ P k) → ∃ j, j < n ∧ P j ∧ ∀ k, j < k → k < n → ¬ P k := by
 induction n with
 | zero => rintro ⟨k, hk, _⟩; omega
 | succ n ih =>
  rintro ⟨k, hk, hp⟩
  by_cases h : P n
  · exact ⟨n, by omega, h, fun q h1 h2 => by omega⟩
  · have hk' : k < n := by
     rcases Nat.lt_or_ge k n with h' | h'
     · exact h'
     · have : k = n := by omega
       subst this
       exact absurd hp h
    obtain ⟨j, h1, h2, h3⟩ := ih ⟨k, hk', hp⟩
    refine ⟨j, by omega, h2, fun q hq hq2 => ?_⟩
    rcases Nat.lt_or_ge q n with h' | h'
    · exact h3 q hq h'
    · have : q = n := by omega
      subst this
      exact h
theorem pre_le {x t : List Int} (hl : x.length = t.length) : ∀ m : Nat, m ≤ x.length → (∀ k : Nat, k < m → rd x (k : Int) ≤ rd t (k : Int)) → pre x m ≤ pre t m
 | 0, _, _ => by rw [pre_zero, pre_zero]; exact Int.le_refl _
 | m + 1, hm, h => by
  have ih := pre_le hl m (by omega) (fun k hk => h k (by omega))
  have := h m (by omega)
  rw [pre_succ (by omega), pre_succ (by omega)]
  omega
theorem pre_lt {x t : List Int} (hl : x.length = t.length) : ∀ m : Nat, m ≤ x.length → (∀ k : Nat, k < m → rd x (k : Int) ≤ rd t (k : Int)) → (∃ k : Nat, k < m ∧ rd x (k : Int) < rd t (k : Int)) → pre x m < pre t m
 | 0, _, _, ⟨k, hk, _⟩ => by omega
 | m + 1, hm, h, ⟨k, hk, hk2⟩ => by
  have h2 := h m (by omega)
  rw [pre_succ (by omega), pre_succ (by omega)]
  rcases Nat.lt_or_ge k m with hlt | hge
  · have := pre_lt hl m (by omega) (fun k hk => h k (by omega)) ⟨k, hlt, hk2⟩
    omega
  · have : k = m := by omega
    subst this
    have := pre_le hl k (by omega) (fun k hk => h k (by omega))
    omega
theorem nx_exists {x t : List Int} (hd : Dom x t) (hne : x ≠ t) : ∃ i j, Nx x t i j := by
 obtain ⟨hl, hs, hp⟩ := hd
 have h1 : ∃ k : Nat, k < x.length ∧ rd x (k : Int) < rd t (k : Int) := by
  refine Classical.byContradiction fun hno => ?_
  have hge : ∀ k : Nat, k < x.length → rd t (k : Int) ≤ rd x (k : Int) := fun k hk => by
   rcases Int.lt_or_le (rd x (k : Int)) (rd t (k : Int)) with h | h
   · exact absurd ⟨k, hk, h⟩ hno
   · exact h
  refine hne (ext_rd hl fun k hk => ?_)
  rcases Int.lt_or_le (rd t (k : Int)) (rd x (k : Int)) with h | h
  · have := pre_lt hl.symm x.length (by omega) (fun k hk => hge k hk) ⟨k, hk, h⟩
    rw [pre_all (by omega), pre_all (by omega)] at this
    omega
  · have := hge k hk
    omega
 obtain ⟨j, hj, hjlt, hbef⟩ := least_lt _ _ h1
 have hbef' : ∀ k : Nat, k < j → rd t (k : Int) ≤ rd x (k : Int) := fun k hk => by
  have := hbef k hk
  omega
 have h2 : ∃ k : Nat, k < j ∧ rd t (k : Int) < rd x (k : Int) := by
  refine Classical.byContradiction fun hno => ?_
  have hle : ∀ k : Nat, k < j + 1 → rd x (k : Int) ≤ rd t (k : Int) := fun k hk => by
   rcases Nat.lt_or_ge k j with h | h
   · rcases Int.lt_or_le (rd t (k : Int)) (rd x (k : Int)) with h' | h'
     · exact absurd ⟨k, h, h'⟩ hno
     · exact h'
   · have : k = j := by omega
     subst this
     omega
  have := pre_lt hl (j + 1) (by omega) hle ⟨j, by omega, hjlt⟩
  have := hp (j + 1)
  omega
 obtain ⟨i, hi, higt, hbtw⟩ := last_lt _ _ h2
 exact ⟨i, j, hi, hj, hjlt, hbef', higt, fun k h1 h2 => by
  have := hbtw k h1 h2
  omega⟩
theorem giveL_length (l : List Int) (f t a : Int) : (giveL l f t a).length = l.length := by
 unfold giveL
 rw [List.length_set, List.length_set]
theorem giveL_rd (l : List Int) (i j : Nat) (a : Int) (hi : i < l.length) (hj : j < l.length) (hij : i ≠ j) (k : Nat) : rd (giveL l (i : Int) (j : Int) a) (k : Int) = if k = j then rd l (j : Int) + a else if k = i then rd l (i : Int) - a else rd l (k : Int) := by
 unfold giveL
 by_cases h1 : k = j
 · subst h1
   rw [if_pos rfl, rd_set_self _ (by omega) (by rw [List.length_set]; omega)]
 · rw [if_neg h1, rd_set_ne _ (by omega) (by omega) (by omega)]
   by_cases h2 : k = i
   · subst h2
     rw [if_pos rfl, rd_set_self _ (by omega) (by omega)]
   · rw [if_neg h2, rd_set_ne _ (by omega) (by omega) (by omega)]
theorem giveL_pre (l : List Int) (i j : Nat) (a : Int) (hi : i < l.length) (hj : j < l.length) (hij : i ≠ j) : ∀ m : Nat, m ≤ l.length → pre (giveL l (i : Int) (j : Int) a) m = pre l m - (if i < m then a else 0) + (if j < m then a else 0)
 | 0, _ => by rw [pre_zero, pre_zero, if_neg (by omega), if_neg (by omega)]; omega
 | m + 1, h => by
  rw [pre_succ (by rw [giveL_length]; omega), pre_succ (by omega), giveL_pre l i j a hi hj hij m (by omega), giveL_rd l i j a hi hj hij m]
  by_cases h1 : m = j
  · subst h1
    rw [if_pos rfl, if_neg (show ¬ m < m by omega), if_pos (show m < m + 1 by omega)]
    by_cases h3 : i < m
    · rw [if_pos h3, if_pos (by omega)]; omega
    · rw [if_neg h3, if_neg (by omega)]; omega
  · rw [if_neg h1]
    by_cases h2 : m = i
    · subst h2
      rw [if_pos rfl, if_neg (show ¬ m < m by omega), if_pos (show m < m + 1 by omega)]
      by_cases h3 : j < m
      · rw [if_pos h3, if_pos (by omega)]; omega
      · rw [if_neg h3, if_neg (by omega)]; omega
    · rw [if_neg h2]
      have e1 : i < m + 1 ↔ i < m := by omega
      have e2 : j < m + 1 ↔ j < m := by omega
      simp only [e1, e2]
      omega
theorem giveL_sum (l : List Int) (i j : Nat) (a : Int) (hi : i < l.length) (hj : j < l.length) (hij : i ≠ j) : (giveL l (i : Int) (j : Int) a).sum = l.sum := by
 have h := giveL_pre l i j a hi hj hij l.length (Nat.le_refl _)
 rw [pre_all (by rw [giveL_length]; omega), pre_all (Nat.le_refl _), if_pos hi, if_pos hj] at h
 omega
end Go.Proofs.Ytdkimdlbjeobiaa.A

namespace Go.Proofs.Ytdkimdlbjeobiaa.A
open Go.RowKit Go.Proofs.YtdkimdlbjeobiaaW.PrintWords Go.Proofs.YtdkimdlbjeobiaaW.PrintLast Go.Proofs.YtdkimdlbjeobiaaW.PrintMore
set_option linter.unusedVariables false
set_option linter.unusedSimpArgs false
/-! which lists allL holds, and in which order -/
theorem allGo_mem {F : Int → List (List Int)} {n s : Int} {x : List Int} (hn : 0 ≤ n) : ∀ t : Nat, x ∈ allGo F n s t ↔ ∃ f : Nat, f ≤ t ∧ (f : Int) * n ≥ s ∧ x ∈ F (f : Int)
 | 0 => by
  unfold allGo
  constructor
  · intro h
    split at h
    · next hc => exact ⟨0, Nat.le_refl _, by simpa using hc, by simpa using h⟩
    · simp at h
  · rintro ⟨f, hf, hc, hx⟩
    obtain rfl : f = 0 := by omega
    rw [if_pos (by simpa using hc)]
    simpa using hx
 | t + 1 => by
  have ih := allGo_mem (F := F) (s := s) (x := x) hn t
  unfold allGo
  constructor
  · intro h
    split at h
    · next hc =>
      rcases List.mem_append.1 h with h | h
      · exact ⟨t + 1, Nat.le_refl _, hc, h⟩
      · obtain ⟨f, h1, h2, h3⟩ := ih.1 h
        exact ⟨f, by omega, h2, h3⟩
    · simp at h
  · rintro ⟨f, hf, hc, hx⟩
    have hm : (f : Int) * n ≤ ((t + 1 : Nat) : Int) * n := Int.mul_le_mul_of_nonneg_right (by omega) hn
    rw [if_pos (by omega)]
    by_cases e : f = t + 1
    · subst e
      exact List.mem_append.2 (.inl hx)
    · exact List.mem_append.2 (.inr (ih.2 ⟨f, by omega, hc, hx⟩))
theorem sum_le_of {f : Int} : ∀ y : List Int, (∀ z ∈ y, 0 ≤ z ∧ z ≤ f) → 0 ≤ y.sum ∧ y.sum ≤ f * (y.length : Int)
 | [], _ => by simp
 | z :: y, h => by
  have ih := sum_le_of y (fun w hw => h w (List.mem_cons_of_mem _ hw))
  have := h z List.mem_cons_self
  rw [List.sum_cons, List.length_cons, Int.natCast_succ, Int.mul_add]
  omega
theorem allL_mem : ∀ (n : Nat) (s m : Int) (x : List Int), 0 ≤ s → 0 ≤ m → (x ∈ allL n s m ↔ x.length = n ∧ Desc x ∧ (∀ y ∈ x, 0 ≤ y ∧ y ≤ m) ∧ x.sum = s)
 | 0, s, m, x, hs, hm => by
  unfold allL
  constructor
  · intro h
    split at h
    · next hc =>
      have : x = [] := by simpa using h
      subst this
      exact ⟨rfl, List.Pairwise.nil, by simp, by simp [hc]⟩
    · simp at h
  · rintro ⟨h1, _, _, h4⟩
    have : x = [] := List.length_eq_zero_iff.1 h1
    subst this
    rw [if_pos (by simpa using h4.symm)]
    simp
 | n + 1, s, m, x, hs, hm => by
  unfold allL
  rw [allGo_mem (by omega)]
  constructor
  · rintro ⟨f, hf, hc, hx⟩
    obtain ⟨y, hy, rfl⟩ := List.mem_map.1 hx
    obtain ⟨h1, h2, h3, h4⟩ := (allL_mem n (s - f) f y (by omega) (by omega)).1 hy
    refine ⟨by simp [h1], List.pairwise_cons.2 ⟨fun z hz => (h3 z hz).2, h2⟩, fun z hz => ?_, by rw [List.sum_cons, h4]; omega⟩
    rcases List.mem_cons.1 hz with rfl | hz
    · omega
    · have := h3 z hz
      omega
  · rintro ⟨h1, h2, h3, h4⟩
    cases x with
    | nil => simp at h1
    | cons f y =>
     have hf := h3 f List.mem_cons_self
     have hd := List.pairwise_cons.1 h2
     have hy : ∀ z ∈ y, 0 ≤ z ∧ z ≤ f := fun z hz => ⟨(h3 z (List.mem_cons_of_mem _ hz)).1, hd.1 z hz⟩
     have hl : y.length = n := by simpa using h1
     have hb := sum_le_of y hy
     rw [hl] at hb
     rw [List.sum_cons] at h4
     have e : ((f.toNat : Nat) : Int) = f := by omega
     refine ⟨f.toNat, by omega, ?_, List.mem_map.2 ⟨y, ?_, by rw [e]⟩⟩
     · rw [e, Int.natCast_succ, Int.mul_add]
       omega
     · rw [e]
       exact (allL_mem n (s - f) f y (by omega) hf.1).2 ⟨hl, hd.2, hy, by omega⟩
/-! before: the greater one by the first number that differs -/
def lexB : List Int → List Int → Prop
 | x :: a, y :: b => y < x ∨ x = y ∧ lexB a b
 | _, _ => False
theorem lexB_irrefl : ∀ a : List Int, ¬ lexB a a
 | [] => fun h => h
 | x :: a => fun h => by
  rcases h with h | ⟨_, h⟩
  · omega
  · exact lexB_irrefl a h
theorem lexB_trans : ∀ a b c : List Int, lexB a b → lexB b c → lexB a c
 | [], _, _, h, _ => h.elim
 | _ :: _, [], _, h, _ => h.elim
 | _ :: _, _ :: _, [], _, h => h.elim
 | x :: a, y :: b, z :: c, h, k => by
  rcases h with h | ⟨e, h⟩
  · rcases k with k | ⟨e', _⟩
    · exact .inl (by omega)
    · exact .inl (by omega)
  · rcases k with k | ⟨e', k⟩
    · exact .inl (by omega)
    · exact .inr ⟨by omega, lexB_trans a b c h k⟩
theorem lexB_total : ∀ a b : List Int, a.length = b.length → a = b ∨ lexB a b ∨ lexB b a
 | [], [], _ => .inl rfl
 | [], _ :: _, h => by simp at h
 | _ :: _, [], h => by simp at h
 | x :: a, y :: b, h => by
  rcases lexB_total a b (by simpa using h) with e | e | e
  · by_cases hxy : x = y
    · exact .inl (by rw [hxy, e])
    · by_cases hlt : y < x
      · exact .inr (.inl (.inl hlt))
      · exact .inr (.inr (.inl (by omega)))
  · by_cases hxy : x = y
    · exact .inr (.inl (.inr ⟨hxy, e⟩))
    · by_cases hlt : y < x
      · exact .inr (.inl (.inl hlt))
      · exact .inr (.inr (.inl (by omega)))
  · by_cases hxy : x = y
    · exact .inr (.inr (.inr ⟨hxy.symm, e⟩))
    · by_cases hlt : y < x
      · exact .inr (.inl (.inl hlt))
      · exact .inr (.inr (.inl (by omega)))
theorem allGo_sorted {F : Int → List (List Int)} {n s : Int} (hF : ∀ f, (F f).Pairwise lexB) (hh : ∀ f x, x ∈ F f → ∃ y, x = f :: y) : ∀ t : Nat, (allGo F n s t).Pairwise lexB ∧ ∀ x ∈ allGo F n s t, ∃ (f : Int) (y : List Int), f ≤ (t : Int) ∧ x = f :: y
 | 0 => by
  unfold allGo
  split
  · exact ⟨hF 0, fun x hx => by obtain ⟨y, e⟩ := hh 0 x hx; exact ⟨0, y, by omega, e⟩⟩
  · exact ⟨List.Pairwise.nil, by simp⟩
 | t + 1 => by
  obtain ⟨i1, i2⟩ := allGo_sorted (n := n) (s := s) hF hh t
  unfold allGo
  split
  · refine ⟨List.pairwise_append.2 ⟨hF _, i1, fun x hx y hy => ?_⟩, fun x hx => ?_⟩
    · obtain ⟨u, rfl⟩ := hh _ x hx
      obtain ⟨f, v, hf, rfl⟩ := i2 y hy
      exact .inl (by omega)
    · rcases List.mem_append.1 hx with hx | hx
      · obtain ⟨u, e⟩ := hh _ x hx
        exact ⟨_, u, Int.le_refl _, e⟩
      · obtain ⟨f, v, hf, e⟩ := i2 x hx
        exact ⟨f, v, by omega, e⟩
  · exact ⟨List.Pairwise.nil, by simp⟩
theorem allL_sorted : ∀ (n : Nat) (s m : Int), (allL n s m).Pairwise lexB
 | 0, s, m => by
  unfold allL
  split
  · exact List.pairwise_singleton _ _
  · exact List.Pairwise.nil
 | n + 1, s, m => by
  unfold allL
  refine (allGo_sorted (fun f => List.pairwise_map.2 ((allL_sorted n (s - f) f).imp fun h => .inr ⟨rfl, h⟩)) (fun f x hx => ?_) _).1
  obtain ⟨y, _, rfl⟩ := List.mem_map.1 hx
  exact ⟨y, rfl⟩
/-! the lists that are majorized by one -/
def undL (a : List Int) : List (List Int) := (allL a.length a.sum a.sum).filter fun x => majB x a
theorem gsum0 {a : List Int} (h : goodL a = true) : 0 ≤ a.sum := by
 have hs := good_sm h
 exact (sum_le_of (f := 1000) a hs.2).1
theorem und_mem {a : List Int} (hg : goodL a = true) (x : List Int) : x ∈ undL a ↔ Desc x ∧ (∀ y ∈ x, 0 ≤ y ∧ y ≤ a.sum) ∧ majB x a = true := by
 unfold undL
 rw [List.mem_filter, allL_mem _ _ _ _ (gsum0 hg) (gsum0 hg)]
 constructor
 · rintro ⟨⟨_, h2, h3, _⟩, h5⟩
   exact ⟨h2, h3, h5⟩
 · rintro ⟨h2, h3, h5⟩
   have := (majB_iff x a).1 h5
   exact ⟨⟨this.1, h2, h3, this.2.1⟩, h5⟩
theorem mem_le_sum {f : Int} : ∀ y : List Int, (∀ z ∈ y, 0 ≤ z) → f ∈ y → f ≤ y.sum
 | [], _, h => by simp at h
 | z :: y, h, hf => by
  have hy : 0 ≤ y.sum := by
   clear hf
   have := fun w hw => h w (List.mem_cons_of_mem z hw)
   clear h
   induction y with
   | nil => simp
   | cons w y ih =>
    have h1 := this w List.mem_cons_self
    have h2 := ih (fun v hv => this v (List.mem_cons_of_mem _ hv))
    rw [List.sum_cons]
    omega
  rw [List.sum_cons]
  rcases List.mem_cons.1 hf with rfl | hf
  · omega
  · have := mem_le_sum y (fun w hw => h w (List.mem_cons_of_mem _ hw)) hf
    have := h z List.mem_cons_self
    omega
theorem maj_rank (a : List Int) : majB (descL a) a = true := (majB_dom _ _).2 (by rw [descL_descL]; exact ⟨rfl, rfl, fun _ => Int.le_refl _⟩)
theorem und_rank {a : List Int} (hg : goodL a = true) : descL a ∈ undL a := by
 have hs := good_sm hg
 refine (und_mem hg _).2 ⟨descL_desc a, fun y hy => ?_, maj_rank a⟩
 have hy := descL_mem.1 hy
 exact ⟨(hs.2 y hy).1, mem_le_sum a (fun z hz => (hs.2 z hz).1) hy⟩
theorem und_pos {a : List Int} (hg : goodL a = true) : 0 < (undL a).length := List.length_pos_of_mem (und_rank hg)
theorem good_len {a : List Int} (h : goodL a = true) : 1 ≤ a.length ∧ a.length ≤ 8 := by
 unfold goodL at h
 split at h
 · omega
 · cases h
theorem all_sm {a : List Int} (hg : goodL a = true) (h30 : a.sum ≤ 30) {x : List Int} (hx : x ∈ allL a.length a.sum a.sum) : Sm x := by
 obtain ⟨h1, _, h3, _⟩ := (allL_mem _ _ _ _ (gsum0 hg) (gsum0 hg)).1 hx
 have := good_len hg
 exact ⟨by omega, fun y hy => by have := h3 y hy; omega⟩
theorem und_bd (a : List Int) (hg : goodL a = true) (h30 : a.sum ≤ 30) : (undL a).length ≤ 852891037441 := by
 have h1 := allL_bd (good_len hg).2 (m := a.sum) h30 (gsum0 hg)
 have h2 := List.length_filter_le (fun x => majB x a) (allL a.length a.sum a.sum)
 unfold undL
 omega
theorem und_good {a : List Int} (hg : goodL a = true) (h30 : a.sum ≤ 30) {x : List Int} (hx : x ∈ undL a) : goodL x = true ∧ Sm x ∧ Desc x ∧ x.length = a.length ∧ x.sum = a.sum := by
 obtain ⟨h1, h2, h3⟩ := (und_mem hg x).1 hx
 obtain ⟨e1, e2, _⟩ := (majB_iff x a).1 h3
 have hl := good_len hg
 have hs : Sm x := ⟨by omega, fun y hy => by have := h2 y hy; omega⟩
 refine ⟨?_, hs, h1, e1, e2⟩
 unfold goodL inR
 rw [if_pos (by omega), List.all_eq_true]
 intro y hy
 have := h2 y hy
 simp
 omega
theorem implBelow_ev (a : List Int) (hg : goodL a = true) (h30 : a.sum ≤ 30) : Ev (fun k => impl_below.f k a) (undL a) := by
 have hs := good_sm hg
 have hl := good_len hg
 have h0 := gsum0 hg
 unfold impl_below.f
 refine Ev.bind (total_ev a hs) (Ev.bind (implAll_ev a.length hl.2 a.sum a.sum h30 h0 h0) ?_)
 have hpos : 0 < (allL a.length a.sum a.sum).length := by
  have := und_pos hg
  have := List.length_filter_le (fun x => majB x a) (allL a.length a.sum a.sum)
  unfold undL at *
  omega
 obtain ⟨K, hK⟩ : ∃ K, ∀ k, K ≤ k → ∀ x ∈ allL a.length a.sum a.sum, impl_isMajorized.f k x a = some (majB x a) := by
  have : ∀ l : List (List Int), (∀ x ∈ l, Sm x) → ∃ K, ∀ k, K ≤ k → ∀ x ∈ l, impl_isMajorized.f k x a = some (majB x a) := by
   intro l
   induction l with
   | nil => exact fun _ => ⟨0, fun _ _ x hx => by simp at hx⟩
   | cons y l ih =>
    intro hl
    obtain ⟨K1, h1⟩ := ih (fun x hx => hl x (List.mem_cons_of_mem _ hx))
    obtain ⟨K2, h2⟩ := isMajorized_ev y a (hl y List.mem_cons_self) hs
    refine ⟨max K1 K2, fun k hk x hx => ?_⟩
    rcases List.mem_cons.1 hx with rfl | hx
    · exact h2 k (by omega)
    · exact h1 k (by omega) x hx
  exact this _ (fun x hx => all_sm hg h30 hx)
 refine ⟨K, fun k hk => ?_⟩
 have e1 : majAll k a (allL a.length a.sum a.sum) = true := List.all_eq_true.2 fun x hx => by rw [hK k hk x hx]; rfl
 have e2 : majKept k a (allL a.length a.sum a.sum) = undL a := List.filter_congr fun x hx => by rw [hK k hk x hx]; cases majB x a <;> rfl
 show (if 0 < (allL a.length a.sum a.sum).length ∧ majAll k a (allL a.length a.sum a.sum) = true then some (majKept k a (allL a.length a.sum a.sum)) else none) = some (undL a)
 rw [if_pos ⟨hpos, e1⟩, e2]
end Go.Proofs.Ytdkimdlbjeobiaa.A

-- made by a program of this repo (wip/pp.py) through the kit's printer
namespace Go.Proofs.Ytdkimdlbjeobiaa.A
open Go.RowKit Go.Proofs.YtdkimdlbjeobiaaW.PrintWords Go.Proofs.YtdkimdlbjeobiaaW.PrintLast Go.Proofs.YtdkimdlbjeobiaaW.PrintMore
attribute [local go_sem] max2_int min2_int max_two min_two max_three min_three max_four min_four
set_option linter.unusedVariables false
set_option linter.unusedSimpArgs false

end Go.Proofs.Ytdkimdlbjeobiaa.A

-- made by a program of this repo (wip/pp.py) through the kit's printer
namespace Go.Proofs.Ytdkimdlbjeobiaa.A
open Go.RowKit Go.Proofs.YtdkimdlbjeobiaaW.PrintWords Go.Proofs.YtdkimdlbjeobiaaW.PrintLast Go.Proofs.YtdkimdlbjeobiaaW.PrintMore
attribute [local go_sem] max2_int min2_int max_two min_two max_three min_three max_four min_four
set_option linter.unusedVariables false
set_option linter.unusedSimpArgs false

end Go.Proofs.Ytdkimdlbjeobiaa.A

-- made by a program of this repo (wip/pp.py) through the kit's printer
namespace Go.Proofs.Ytdkimdlbjeobiaa.A
open Go.RowKit Go.Proofs.YtdkimdlbjeobiaaW.PrintWords Go.Proofs.YtdkimdlbjeobiaaW.PrintLast Go.Proofs.YtdkimdlbjeobiaaW.PrintMore
attribute [local go_sem] max2_int min2_int max_two min_two max_three min_three max_four min_four
set_option linter.unusedVariables false
set_option linter.unusedSimpArgs false

end Go.Proofs.Ytdkimdlbjeobiaa.A

namespace Go.Proofs.Ytdkimdlbjeobiaa.A
open Go.RowKit Go.Proofs.YtdkimdlbjeobiaaW.PrintWords Go.Proofs.YtdkimdlbjeobiaaW.PrintLast Go.Proofs.YtdkimdlbjeobiaaW.PrintMore
set_option linter.unusedVariables false
set_option linter.unusedSimpArgs false
theorem tot_le {l : List (List Int)} {B : Nat} (h : ∀ x ∈ l, x.length ≤ B) : totSS l ≤ B * l.length := by
 induction l with
 | nil => simp [totSS]
 | cons x l ih =>
  have := ih (fun y hy => h y (List.mem_cons_of_mem _ hy))
  have := h x List.mem_cons_self
  simp only [totSS, List.map_cons, List.sum_cons, List.length_cons, Nat.mul_succ] at *
  omega
end Go.Proofs.Ytdkimdlbjeobiaa.A

namespace Go.Proofs.Ytdkimdlbjeobiaa.A
open Go.RowKit Go.Proofs.YtdkimdlbjeobiaaW.PrintWords Go.Proofs.YtdkimdlbjeobiaaW.PrintLast Go.Proofs.YtdkimdlbjeobiaaW.PrintMore
set_option linter.unusedVariables false
set_option linter.unusedSimpArgs false
theorem psums_inj : ∀ (a b : List Int) (s : Int), psums s a = psums s b → a = b
 | [], [], _, _ => rfl
 | [], y :: b, s, h => by simp [psums] at h
 | x :: a, [], s, h => by simp [psums] at h
 | x :: a, y :: b, s, h => by
  simp only [psums, List.cons.injEq] at h
  have e : x = y := by omega
  subst e
  rw [psums_inj a b _ h.2]
theorem majB_cmp (a b : List Int) : majB a b = true ↔ a.length = b.length ∧ a.sum = b.sum ∧ ∀ (j : Nat) (h1 : j < (partL a).length) (h2 : j < (partL b).length), (partL a)[j] ≤ (partL b)[j] := by
 unfold majB
 by_cases h : fitB a b = true
 · rw [if_pos h, beq_iff_eq]
   unfold overR
   rw [overL_zero _ _ 0 (by omega)]
   have := (fitB_iff a b).1 h
   exact ⟨fun h' => ⟨this.1, this.2, h'⟩, fun h' => h'.2.2⟩
 · rw [if_neg h]
   exact ⟨fun h' => absurd h' (by decide), fun h' => absurd ((fitB_iff a b).2 ⟨h'.1, h'.2.1⟩) h⟩
theorem maj_both (a b : List Int) : (majB a b = true ∧ majB b a = true) ↔ (fitB a b = true ∧ descL a = descL b) := by
 rw [majB_cmp, majB_cmp, fitB_iff]
 constructor
 · rintro ⟨⟨h1, h2, h3⟩, _, _, h4⟩
   refine ⟨⟨h1, h2⟩, psums_inj _ _ 0 ?_⟩
   refine List.ext_getElem (by rw [psums_length, psums_length, descL_length, descL_length, h1]) (fun j h5 h6 => ?_)
   exact Int.le_antisymm (h3 j h5 h6) (h4 j h6 h5)
 · rintro ⟨⟨h1, h2⟩, h3⟩
   have e : partL a = partL b := by
    unfold partL
    rw [h3]
   refine ⟨⟨h1, h2, ?_⟩, h1.symm, h2.symm, ?_⟩
   · intro j h4 h5
     simp only [e]
     exact Int.le_refl _
   · intro j h4 h5
     simp only [e]
     exact Int.le_refl _
end Go.Proofs.Ytdkimdlbjeobiaa.A

-- made by a program of this repo (wip/pp.py) through the kit's printer
namespace Go.Proofs.Ytdkimdlbjeobiaa.A
open Go.RowKit Go.Proofs.YtdkimdlbjeobiaaW.PrintWords Go.Proofs.YtdkimdlbjeobiaaW.PrintLast Go.Proofs.YtdkimdlbjeobiaaW.PrintMore
attribute [local go_sem] max2_int min2_int max_two min_two max_three min_three max_four min_four
set_option linter.unusedVariables false
set_option linter.unusedSimpArgs false

/-! ### impl_conjugate: function 52 -/
mutual
def impl_conjugate.l0 : Nat → Int → List Int → List Int → Int → Int → Option (List Int)
 | 0, _, _, _, _, _ => none
 | k + 1, x1, x5, x11, x12, x13 => if x13 < x12 then (if 0 ≤ x13 then (if x13 < (x11.length : Int) then (impl_conjugate.l1 k x1 x5 x11 x12 x13 (mn (rd x11 x13) x1) 0) else (none)) else (none)) else (some x5)
def impl_conjugate.l1 : Nat → Int → List Int → List Int → Int → Int → Int → Int → Option (List Int)
 | 0, _, _, _, _, _, _, _ => none
 | k + 1, x1, x5, x11, x12, x13, x19, x20 => if x20 < x19 then (if 0 ≤ x20 then (if x20 < (x5.length : Int) then (impl_conjugate.l1 k x1 (x5.set (x20 : Int).toNat (wrap64 ((rd x5 x20) + 1))) x11 x12 x13 x19 (wrap64 (x20 + 1))) else (none)) else (none)) else (impl_conjugate.l0 k x1 x5 x11 x12 (wrap64 (x13 + 1)))
end
end Go.Proofs.Ytdkimdlbjeobiaa.A

-- made by a program of this repo (wip/pp.py) through the kit's printer
namespace Go.Proofs.Ytdkimdlbjeobiaa.A
open Go.RowKit Go.Proofs.YtdkimdlbjeobiaaW.PrintWords Go.Proofs.YtdkimdlbjeobiaaW.PrintLast Go.Proofs.YtdkimdlbjeobiaaW.PrintMore
attribute [local go_sem] max2_int min2_int max_two min_two max_three min_three max_four min_four
set_option linter.unusedVariables false
set_option linter.unusedSimpArgs false

/-! ### spec_liConjugate: function 56 -/
mutual
def spec_liConjugate.l0 : Nat → Int → List Int → List Int → Int → Int → Option (List Int)
 | 0, _, _, _, _, _ => none
 | k + 1, x1, x5, x11, x12, x13 => if x13 < x12 then (if 0 ≤ x13 then (if x13 < (x11.length : Int) then (spec_liConjugate.l1 k x1 x5 (rd x11 x13) 0 x11 x12 x13) else (none)) else (none)) else (some x5)
def spec_liConjugate.l1 : Nat → Int → List Int → Int → Int → List Int → Int → Int → Option (List Int)
 | 0, _, _, _, _, _, _, _ => none
 | k + 1, x1, x5, x7, x8, x11, x12, x13 => if x8 < x7 then (if x8 < x1 then (if 0 ≤ x8 then (if x8 < (x5.length : Int) then (spec_liConjugate.l1 k x1 (x5.set (x8 : Int).toNat (wrap64 ((rd x5 x8) + 1))) x7 (wrap64 (x8 + 1)) x11 x12 x13) else (none)) else (none)) else (spec_liConjugate.l0 k x1 x5 x11 x12 (wrap64 (x13 + 1)))) else (spec_liConjugate.l0 k x1 x5 x11 x12 (wrap64 (x13 + 1)))
end
end Go.Proofs.Ytdkimdlbjeobiaa.A

namespace Go.Proofs.Ytdkimdlbjeobiaa.A
open Go.RowKit Go.Proofs.YtdkimdlbjeobiaaW.PrintWords Go.Proofs.YtdkimdlbjeobiaaW.PrintLast Go.Proofs.YtdkimdlbjeobiaaW.PrintMore
set_option linter.unusedVariables false
set_option linter.unusedSimpArgs false
end Go.Proofs.Ytdkimdlbjeobiaa.A

-- made by a program of this repo (wip/pp.py) through the kit's printer
namespace Go.Proofs.Ytdkimdlbjeobiaa.A
open Go.RowKit Go.Proofs.YtdkimdlbjeobiaaW.PrintWords Go.Proofs.YtdkimdlbjeobiaaW.PrintLast Go.Proofs.YtdkimdlbjeobiaaW.PrintMore
attribute [local go_sem] max2_int min2_int max_two min_two max_three min_three max_four min_four
set_option linter.unusedVariables false
set_option linter.unusedSimpArgs false

end Go.Proofs.Ytdkimdlbjeobiaa.A

-- made by a program of this repo (wip/pp.py) through the kit's printer
namespace Go.Proofs.Ytdkimdlbjeobiaa.A
open Go.RowKit Go.Proofs.YtdkimdlbjeobiaaW.PrintWords Go.Proofs.YtdkimdlbjeobiaaW.PrintLast Go.Proofs.YtdkimdlbjeobiaaW.PrintMore
attribute [local go_sem] max2_int min2_int max_two min_two max_three min_three max_four min_four
set_option linter.unusedVariables false
set_option linter.unusedSimpArgs false

end Go.Proofs.Ytdkimdlbjeobiaa.A

-- made by a program of this repo (wip/pp.py) through the kit's printer
namespace Go.Proofs.Ytdkimdlbjeobiaa.A
open Go.RowKit Go.Proofs.YtdkimdlbjeobiaaW.PrintWords Go.Proofs.YtdkimdlbjeobiaaW.PrintLast Go.Proofs.YtdkimdlbjeobiaaW.PrintMore
attribute [local go_sem] max2_int min2_int max_two min_two max_three min_three max_four min_four
set_option linter.unusedVariables false
set_option linter.unusedSimpArgs false

/-! ### spec_liFrom: function 58 -/
def spec_liFrom.l0 : Nat → List Int → Int → List Int → Int → Int → Option (List Int)
 | 0, _, _, _, _, _ => none
 | k + 1, x3, x4, x7, x8, x9 => if x9 < x8 then (if 0 ≤ x9 then (if x9 < (x7.length : Int) then (if x3.length < 17592186044416 then (spec_liFrom.l0 k (x3 ++ [wrap64 ((rd x7 x9) - x4)]) (rd x7 x9) x7 x8 (wrap64 (x9 + 1))) else (none)) else (none)) else (none)) else (some x3)
def spec_liFrom.f (k : Nat) (l0 : List Int) : Option (List Int) := spec_liFrom.l0 k ([] : List Int) 0 l0 (l0.length : Int) 0
end Go.Proofs.Ytdkimdlbjeobiaa.A

-- made by a program of this repo (wip/pp.py) through the kit's printer
namespace Go.Proofs.Ytdkimdlbjeobiaa.A
open Go.RowKit Go.Proofs.YtdkimdlbjeobiaaW.PrintWords Go.Proofs.YtdkimdlbjeobiaaW.PrintLast Go.Proofs.YtdkimdlbjeobiaaW.PrintMore
attribute [local go_sem] max2_int min2_int max_two min_two max_three min_three max_four min_four
set_option linter.unusedVariables false
set_option linter.unusedSimpArgs false

/-! ### spec_MeetOf: function 19 -/
mutual
def spec_MeetOf.j0 : Nat → List Int → List Int → Bool → Option (List Int × Bool)
 | 0, _, _, _ => none
 | k + 1, x0, x1, x23 => if x23 = true then (some (([] : List Int), false)) else ((spec_liPartial.f k x0).bind fun t526 => ((spec_liPartial.f k x1).bind fun t529 => (spec_MeetOf.l0 k t526 t529 ([] : List Int) (t526.length : Int) 0)))
def spec_MeetOf.l0 : Nat → List Int → List Int → List Int → Int → Int → Option (List Int × Bool)
 | 0, _, _, _, _, _ => none
 | k + 1, x6, x7, x8, x29, x30 => if x30 < x29 then (if 0 ≤ x30 then (if x30 < (x6.length : Int) then (if x30 < (x7.length : Int) then ((spec_l1Least.f (rd x6 x30) (rd x7 x30)).bind fun t534 => (if x8.length < 17592186044416 then (spec_MeetOf.l0 k x6 x7 (x8 ++ [t534]) x29 (wrap64 (x30 + 1))) else (none))) else (none)) else (none)) else (none)) else ((spec_liFrom.f k x8).bind fun t538 => (some (t538, true)))
end
end Go.Proofs.Ytdkimdlbjeobiaa.A

namespace Go.Proofs.Ytdkimdlbjeobiaa.A
open Go.RowKit Go.Proofs.YtdkimdlbjeobiaaW.PrintWords Go.Proofs.YtdkimdlbjeobiaaW.PrintLast Go.Proofs.YtdkimdlbjeobiaaW.PrintMore
set_option linter.unusedVariables false
set_option linter.unusedSimpArgs false
end Go.Proofs.Ytdkimdlbjeobiaa.A

namespace Go.Proofs.Ytdkimdlbjeobiaa.A
open Go.RowKit Go.Proofs.YtdkimdlbjeobiaaW.PrintWords Go.Proofs.YtdkimdlbjeobiaaW.PrintLast Go.Proofs.YtdkimdlbjeobiaaW.PrintMore
set_option linter.unusedVariables false
set_option linter.unusedSimpArgs false
end Go.Proofs.Ytdkimdlbjeobiaa.A

namespace Go.Proofs.Ytdkimdlbjeobiaa.A
open Go.RowKit Go.Proofs.YtdkimdlbjeobiaaW.PrintWords Go.Proofs.YtdkimdlbjeobiaaW.PrintLast Go.Proofs.YtdkimdlbjeobiaaW.PrintMore
set_option linter.unusedVariables false
set_option linter.unusedSimpArgs false
/-! being majorized, told by the excess over each number -/
def ex (l : List Int) (t : Int) : Int := (l.map fun x => max (x - t) 0).sum
theorem ex_nil (t : Int) : ex [] t = 0 := rfl
theorem ex_cons (x : Int) (l : List Int) (t : Int) : ex (x :: l) t = max (x - t) 0 + ex l t := by simp [ex]
theorem ex_perm {a b : List Int} (h : a.Perm b) (t : Int) : ex a t = ex b t := perm_sum (h.map _)
theorem ex_desc (a : List Int) (t : Int) : ex (descL a) t = ex a t := ex_perm (descL_perm a) t
theorem ex_nn : ∀ (l : List Int) (t : Int), 0 ≤ ex l t
 | [], t => by rw [ex_nil]; exact Int.le_refl _
 | x :: l, t => by
  have := ex_nn l t
  rw [ex_cons]
  omega
theorem pre_cons (x : Int) (l : List Int) (m : Nat) : pre (x :: l) (m + 1) = x + pre l m := by simp [pre]
theorem pre_ex (t : Int) : ∀ (l : List Int) (m : Nat), m ≤ l.length → pre l m ≤ m * t + ex l t
 | l, 0, _ => by
  have := ex_nn l t
  rw [pre_zero]
  simp
  exact this
 | [], m + 1, h => by simp at h
 | x :: l, m + 1, h => by
  have ih := pre_ex t l m (by simpa using h)
  rw [pre_cons, ex_cons, Int.natCast_add, Int.add_mul]
  simp only [Int.natCast_one, Int.one_mul]
  omega
theorem pre_ex_eq (t : Int) : ∀ (l : List Int) (k : Nat), k ≤ l.length → (∀ i (h : i < l.length), i < k → t ≤ l[i]) → (∀ i (h : i < l.length), k ≤ i → l[i] ≤ t) → pre l k = k * t + ex l t
 | [], k, h, _, _ => by
  have : k = 0 := by simpa using h
  subst this
  simp [pre_zero, ex_nil]
 | x :: l, 0, h, h1, h2 => by
  have ih := pre_ex_eq t l 0 (Nat.zero_le _) (fun i _ hi => absurd hi (Nat.not_lt_zero _)) (fun i hi _ => h2 (i + 1) (by simpa using hi) (Nat.zero_le _))
  have hx : x ≤ t := h2 0 (by simp) (Nat.le_refl _)
  rw [pre_zero] at ih ⊢
  rw [ex_cons]
  simp at ih ⊢
  omega
 | x :: l, k + 1, h, h1, h2 => by
  have ih := pre_ex_eq t l k (by simpa using h) (fun i hi hk => h1 (i + 1) (by simpa using hi) (by omega)) (fun i hi hk => h2 (i + 1) (by simpa using hi) (by omega))
  have hx : t ≤ x := h1 0 (by simp) (by omega)
  rw [pre_cons, ex_cons, Int.natCast_add, Int.add_mul]
  simp only [Int.natCast_one, Int.one_mul]
  omega
theorem cut_exists (t : Int) : ∀ (l : List Int), Desc l → ∃ k, k ≤ l.length ∧ (∀ i (h : i < l.length), i < k → t ≤ l[i]) ∧ (∀ i (h : i < l.length), k ≤ i → l[i] ≤ t)
 | [], _ => ⟨0, Nat.le_refl _, fun i h => absurd h (Nat.not_lt_zero _), fun i h => absurd h (Nat.not_lt_zero _)⟩
 | x :: l, hd => by
  unfold Desc at hd
  rw [List.pairwise_cons] at hd
  by_cases hx : t ≤ x
  · obtain ⟨k, h1, h2, h3⟩ := cut_exists t l hd.2
    refine ⟨k + 1, by simpa using h1, fun i h hi => ?_, fun i h hi => ?_⟩
    · cases i with
      | zero => exact hx
      | succ i => exact h2 i (by simpa using h) (by omega)
    · cases i with
      | zero => omega
      | succ i => exact h3 i (by simpa using h) (by omega)
  · refine ⟨0, Nat.zero_le _, fun i h hi => absurd hi (Nat.not_lt_zero _), fun i h _ => ?_⟩
    cases i with
    | zero =>
     show x ≤ t
     omega
    | succ i =>
     have hi : i < l.length := by simpa using h
     have := hd.1 l[i] (List.getElem_mem hi)
     show l[i] ≤ t
     omega
theorem ex_pre {l : List Int} (hd : Desc l) (t : Int) : ∃ k, k ≤ l.length ∧ pre l k = k * t + ex l t := by
 obtain ⟨k, h1, h2, h3⟩ := cut_exists t l hd
 exact ⟨k, h1, pre_ex_eq t l k h1 h2 h3⟩
theorem pre_at {l : List Int} (hd : Desc l) (m : Nat) (hm : m < l.length) : pre l (m + 1) = (m + 1 : Nat) * rd l (m : Int) + ex l (rd l (m : Int)) := by
 refine pre_ex_eq _ l (m + 1) hm (fun i h hi => ?_) (fun i h hi => ?_)
 · have := desc_rd hd (show i ≤ m by omega) hm
   rw [rdn h] at this
   exact this
 · have := desc_rd hd (show m ≤ i by omega) h
   rw [rdn h] at this
   exact this
theorem dom_ex {x y : List Int} (hx : Desc x) (hy : Desc y) : Dom y x ↔ x.length = y.length ∧ x.sum = y.sum ∧ ∀ t, ex x t ≤ ex y t := by
 unfold Dom
 constructor
 · rintro ⟨h1, h2, h3⟩
   refine ⟨h1.symm, h2.symm, fun t => ?_⟩
   obtain ⟨k, hk, e⟩ := ex_pre hx t
   have a := h3 k
   have b := pre_ex t y k (by omega)
   omega
 · rintro ⟨h1, h2, h3⟩
   refine ⟨h1.symm, h2.symm, fun m => ?_⟩
   cases m with
   | zero => rw [pre_zero, pre_zero]; exact Int.le_refl _
   | succ m =>
    by_cases hm : m < y.length
    · have a := pre_at hy m hm
      have b := pre_ex (rd y (m : Int)) x (m + 1) (by omega)
      have c := h3 (rd y (m : Int))
      omega
    · rw [pre_all (by omega), pre_all (by omega)]
      omega
theorem maj_ex (a b : List Int) : majB a b = true ↔ a.length = b.length ∧ a.sum = b.sum ∧ ∀ t, ex a t ≤ ex b t := by
 rw [majB_dom, dom_ex (descL_desc a) (descL_desc b), descL_length, descL_length, descL_sum, descL_sum]
 simp only [ex_desc]
theorem maj_trans {a b c : List Int} (h1 : majB a b = true) (h2 : majB b c = true) : majB a c = true := by
 rw [maj_ex] at *
 exact ⟨by omega, by omega, fun t => Int.le_trans (h1.2.2 t) (h2.2.2 t)⟩
theorem maj_refl (a : List Int) : majB a a = true := (maj_ex a a).2 ⟨rfl, rfl, fun _ => Int.le_refl _⟩
end Go.Proofs.Ytdkimdlbjeobiaa.A

namespace Go.Proofs.Ytdkimdlbjeobiaa.A
open Go.RowKit Go.Proofs.YtdkimdlbjeobiaaW.PrintWords Go.Proofs.YtdkimdlbjeobiaaW.PrintLast Go.Proofs.YtdkimdlbjeobiaaW.PrintMore
set_option linter.unusedVariables false
set_option linter.unusedSimpArgs false
theorem maj_antisymm {a b : List Int} (h1 : majB a b = true) (h2 : majB b a = true) : descL a = descL b := ((maj_both a b).1 ⟨h1, h2⟩).2
theorem maj_desc_l (a b : List Int) : majB (descL a) b = majB a b := by
 rw [Bool.eq_iff_iff, maj_ex, maj_ex, descL_length, descL_sum]
 simp only [ex_desc]
theorem maj_desc_r (a b : List Int) : majB a (descL b) = majB a b := by
 rw [Bool.eq_iff_iff, maj_ex, maj_ex, descL_length, descL_sum]
 simp only [ex_desc]
end Go.Proofs.Ytdkimdlbjeobiaa.A

namespace Go.Proofs.Ytdkimdlbjeobiaa.A
open Go.RowKit Go.Proofs.YtdkimdlbjeobiaaW.PrintWords Go.Proofs.YtdkimdlbjeobiaaW.PrintLast Go.Proofs.YtdkimdlbjeobiaaW.PrintMore
set_option linter.unusedVariables false
set_option linter.unusedSimpArgs false
/-! LowerCovers: the unit gifts of spec -/
def ugF (p : List Int) (i j : Nat) : Option (List Int) := if rd p (i : Int) ≥ rd p (j : Int) + 2 then some (descL (giveL p (i : Int) (j : Int) 1)) else none
def ugRow (p : List Int) (i j d : Nat) : List (List Int) := (List.range' j d).filterMap (ugF p i)
def ugAll (p : List Int) (i d : Nat) : List (List Int) := (List.range' i d).flatMap fun i => ugRow p i 0 p.length
theorem ugRow_le (p : List Int) (i j d : Nat) : (ugRow p i j d).length ≤ d := by
 have := List.length_filterMap_le (ugF p i) (List.range' j d)
 simpa [ugRow] using this
theorem ugAll_succ (p : List Int) (i d : Nat) : ugAll p i (d + 1) = ugRow p i 0 p.length ++ ugAll p (i + 1) d := by
 unfold ugAll
 rw [List.range'_succ, List.flatMap_cons]
theorem ugRow_succ (p : List Int) (i j d : Nat) : ugRow p i j (d + 1) = (if rd p (i : Int) ≥ rd p (j : Int) + 2 then [descL (giveL p (i : Int) (j : Int) 1)] else []) ++ ugRow p i (j + 1) d := by
 unfold ugRow
 rw [List.range'_succ, List.filterMap_cons]
 unfold ugF
 by_cases c : rd p (i : Int) ≥ rd p (j : Int) + 2
 · simp only [if_pos c]
   rfl
 · simp only [if_neg c]
   rfl
theorem specGifts_row (p : List Int) (hp : Sm p) (i : Nat) (hi : i < p.length) (r : List (List Int)) : ∀ (d j : Nat) (acc : List (List Int)), j + d = p.length → acc.length + d ≤ 1000000000 → Ev (fun k => spec_liGifts.l0 k p (acc ++ ugRow p i j d) (p.length : Int) (wrap64 ((i : Int) + 1))) r → Ev (fun k => spec_liGifts.l1 k p acc (i : Int) (p.length : Int) (i : Int) (p.length : Int) (j : Int)) r
 | 0, j, acc, h, hb, hr => by
  refine Ev.succ ?_
  simp only [spec_liGifts.l1, if_neg (show ¬ (j : Int) < (p.length : Int) by omega)]
  simpa [ugRow] using hr
 | d + 1, j, acc, h, hb, hr => by
  have hj : j < p.length := by omega
  have hlen := hp.1
  have bi := hp.2 _ (List.getElem_mem hi)
  have bj := hp.2 _ (List.getElem_mem hj)
  rw [← rdn hi] at bi
  rw [← rdn hj] at bj
  refine Ev.succ ?_
  simp only [spec_liGifts.l1, if_pos (show (j : Int) < (p.length : Int) by omega), if_pos (Int.natCast_nonneg i), if_pos (show (i : Int) < (p.length : Int) by omega), if_pos (Int.natCast_nonneg j), wsucc hj (by omega), w64 (x := rd p (j : Int) + 2) (by omega) (by omega)]
  rw [ugRow_succ] at hr
  by_cases c : rd p (i : Int) ≥ rd p (j : Int) + 2
  · rw [if_pos c] at hr
    have hij : i ≠ j := fun e => by rw [e] at c; omega
    have hset : rd (p.set i (rd p (i : Int) - 1)) (j : Int) = rd p (j : Int) := by
     rw [rdn (by rw [List.length_set]; exact hj), List.getElem_set_ne hij, rdn hj]
    have hg : (p.set i (rd p (i : Int) - 1)).set j (rd p (j : Int) + 1) = giveL p (i : Int) (j : Int) 1 := rfl
    simp only [if_pos c, l1Own_eq p (by omega), Option.bind_some, if_pos (show (i : Int) < (p.length : Int) by omega), if_pos (show (j : Int) < (p.length : Int) by omega), Int.toNat_natCast, w64 (x := rd p (i : Int) - 1) (by omega) (by omega), hset, w64 (x := rd p (j : Int) + 1) (by omega) (by omega), hg]
    refine Ev.bind (liRank_ev _ (by rw [giveL_length]; omega)) ?_
    simp only [if_pos (show acc.length < 5864062014805 by omega)]
    exact specGifts_row p hp i hi r d (j + 1) _ (by omega) (by rw [List.length_append, List.length_singleton]; omega) (by rw [List.append_assoc]; exact hr)
  · rw [if_neg c, List.nil_append] at hr
    simp only [if_neg c]
    exact specGifts_row p hp i hi r d (j + 1) acc (by omega) (by omega) hr
theorem specGifts_all (p : List Int) (hp : Sm p) : ∀ (d i : Nat) (acc : List (List Int)), i + d = p.length → acc.length + d * p.length ≤ 100000000 → Ev (fun k => spec_liGifts.l0 k p acc (p.length : Int) (i : Int)) (acc ++ ugAll p i d)
 | 0, i, acc, h, hb => by
  refine Ev.succ ?_
  simp only [spec_liGifts.l0, if_neg (show ¬ (i : Int) < (p.length : Int) by omega)]
  simp only [ugAll, List.range'_zero, List.flatMap_nil, List.append_nil]
  exact Ev.now _
 | d + 1, i, acc, h, hb => by
  have hlen := hp.1
  rw [Nat.succ_mul] at hb
  refine Ev.succ ?_
  simp only [spec_liGifts.l0, if_pos (show (i : Int) < (p.length : Int) by omega)]
  refine specGifts_row p hp i (by omega) _ p.length 0 acc (by omega) (by omega) ?_
  rw [wsucc (show i < p.length by omega) (by omega), ugAll_succ, ← List.append_assoc]
  have hr := ugRow_le p i 0 p.length
  exact specGifts_all p hp d (i + 1) _ (by omega) (by rw [List.length_append]; omega)
theorem specGifts_ev (p : List Int) (hp : Sm p) : Ev (fun k => spec_liGifts.f k p) (ugAll p 0 p.length) := by
 unfold spec_liGifts.f
 have h1 := hp.1
 have h2 : p.length * p.length ≤ 1000 * 1000 := Nat.mul_le_mul h1 h1
 have := specGifts_all p hp p.length 0 [] (by omega) (by simp; omega)
 rw [List.nil_append] at this
 exact this
end Go.Proofs.Ytdkimdlbjeobiaa.A

namespace Go.Proofs.Ytdkimdlbjeobiaa.A
open Go.RowKit Go.Proofs.YtdkimdlbjeobiaaW.PrintWords Go.Proofs.YtdkimdlbjeobiaaW.PrintLast Go.Proofs.YtdkimdlbjeobiaaW.PrintMore
set_option linter.unusedVariables false
set_option linter.unusedSimpArgs false
/-! greatest elements, chosen in order -/
def pickGo {α : Type} (le : α → α → Bool) : List α → List α → List α
 | out, [] => out
 | out, b :: l => pickGo le (if out.any (fun c => le b c) = true then out else out ++ [b]) l
theorem first_ex {α : Type} {lt : α → α → Prop} {Q : α → Prop} : ∀ L : List α, L.Pairwise lt → (∃ c ∈ L, Q c) → ∃ c ∈ L, Q c ∧ ∀ d ∈ L, Q d → d = c ∨ lt c d
 | [], _, h => by
  obtain ⟨c, hc, _⟩ := h
  simp at hc
 | x :: L, hs, h => by
  obtain ⟨h1, h2⟩ := List.pairwise_cons.1 hs
  by_cases hx : Q x
  · refine ⟨x, List.mem_cons_self, hx, fun d hd _ => ?_⟩
    rcases List.mem_cons.1 hd with e | hd
    · exact .inl e
    · exact .inr (h1 d hd)
  · obtain ⟨c, hc, hq⟩ := h
    have hcL : c ∈ L := by
     rcases List.mem_cons.1 hc with e | hc
     · rw [e] at hq
       exact absurd hq hx
     · exact hc
    obtain ⟨c2, k1, k2, k3⟩ := first_ex L h2 ⟨c, hcL, hq⟩
    refine ⟨c2, List.mem_cons_of_mem _ k1, k2, fun d hd hqd => ?_⟩
    rcases List.mem_cons.1 hd with e | hd
    · rw [e] at hqd
      exact absurd hqd hx
    · exact k3 d hd hqd
theorem pick_step {α : Type} [DecidableEq α] (le : α → α → Bool) (lt : α → α → Prop) (irr : ∀ a, ¬ lt a a) (tr : ∀ a b c, lt a b → lt b c → lt a c) (L : List α) (hs : L.Pairwise lt)
 (h1 : ∀ b ∈ L, ∀ c ∈ L, le b c = true → b ≠ c → lt c b) (h2 : ∀ a ∈ L, ∀ b ∈ L, ∀ c ∈ L, le a b = true → le b c = true → le a c = true) :
 ∀ (rest pre : List α), L = pre ++ rest → pickGo le (pre.filter fun b => L.all fun c => !(le b c) || decide (b = c)) rest = L.filter fun b => L.all fun c => !(le b c) || decide (b = c)
 | [], pre, e => by
  rw [List.append_nil] at e
  rw [← e]
  rfl
 | b :: rest, pre, e => by
  have hb : b ∈ L := by rw [e]; simp
  have hpre : ∀ c ∈ pre, lt c b := fun c hc => by
   rw [e] at hs
   exact (List.pairwise_append.1 hs).2.2 c hc b List.mem_cons_self
  have hrest : ∀ c ∈ rest, lt b c := fun c hc => by
   rw [e] at hs
   exact (List.pairwise_cons.1 (List.pairwise_append.1 hs).2.1).1 c hc
  have key : ((pre.filter fun b => L.all fun c => !(le b c) || decide (b = c)).any (fun c => le b c) = true) ↔ ¬ (L.all fun c => !(le b c) || decide (b = c)) = true := by
   rw [List.any_eq_true]
   constructor
   · rintro ⟨c, hc, hbc⟩ hall
     have hcp := (List.mem_filter.1 hc).1
     have := List.all_eq_true.1 hall c (by rw [e]; exact List.mem_append.2 (.inl hcp))
     rw [hbc] at this
     have hbe : b = c := by simpa using this
     rw [← hbe] at hcp
     exact irr b (hpre b hcp)
   · intro hno
     have hex : ∃ c ∈ L, (le b c = true ∧ b ≠ c) := by
      refine Classical.byContradiction fun hne => hno (List.all_eq_true.2 fun c hc => ?_)
      cases hle : le b c with
      | false => rfl
      | true =>
       by_cases hbe : b = c
       · simp [hbe]
       · exact absurd ⟨c, hc, hle, hbe⟩ hne
     obtain ⟨c, hc, ⟨hle, hbe⟩, hfirst⟩ := first_ex L hs hex
     have hlt : lt c b := h1 b hb c hc hle hbe
     have hcp : c ∈ pre := by
      rw [e] at hc
      rcases List.mem_append.1 hc with hc | hc
      · exact hc
      · rcases List.mem_cons.1 hc with e2 | hc
        · exact absurd e2.symm hbe
        · exact absurd (tr _ _ _ hlt (hrest c hc)) (irr c)
     refine ⟨c, List.mem_filter.2 ⟨hcp, List.all_eq_true.2 fun d hd => ?_⟩, hle⟩
     cases hcd : le c d with
     | false => rfl
     | true =>
      by_cases hce : c = d
      · simp [hce]
      · have hdc : lt d c := h1 c hc d hd hcd hce
        have hbd : le b d = true := h2 b hb c hc d hd hle hcd
        have hbd2 : b ≠ d := fun h => by
         rw [← h] at hdc
         exact irr b (tr _ _ _ hdc hlt)
        rcases hfirst d hd ⟨hbd, hbd2⟩ with h | h
        · exact absurd h.symm hce
        · exact absurd (tr _ _ _ h hdc) (irr c)
  unfold pickGo
  have ih := pick_step le lt irr tr L hs h1 h2 rest (pre ++ [b]) (by rw [e]; simp)
  rw [List.filter_append] at ih
  by_cases hm : (L.all fun c => !(le b c) || decide (b = c)) = true
  · rw [if_neg (fun h => (key.1 h) hm)]
    rw [show List.filter (fun b => L.all fun c => !(le b c) || decide (b = c)) [b] = [b] by rw [List.filter_cons, if_pos hm, List.filter_nil]] at ih
    exact ih
  · rw [if_pos (key.2 hm)]
    rw [show List.filter (fun b => L.all fun c => !(le b c) || decide (b = c)) [b] = [] by rw [List.filter_cons, if_neg hm, List.filter_nil], List.append_nil] at ih
    exact ih
theorem sorted_ext {α : Type} {lt : α → α → Prop} (irr : ∀ a, ¬ lt a a) (tr : ∀ a b c, lt a b → lt b c → lt a c) : ∀ l1 l2 : List α, l1.Pairwise lt → l2.Pairwise lt → (∀ x, x ∈ l1 ↔ x ∈ l2) → l1 = l2
 | [], [], _, _, _ => rfl
 | [], y :: l2, _, _, h => by
  have := (h y).2 List.mem_cons_self
  simp at this
 | x :: l1, [], _, _, h => by
  have := (h x).1 List.mem_cons_self
  simp at this
 | x :: l1, y :: l2, h1, h2, h => by
  obtain ⟨a1, a2⟩ := List.pairwise_cons.1 h1
  obtain ⟨b1, b2⟩ := List.pairwise_cons.1 h2
  have hxy : x = y := by
   rcases List.mem_cons.1 ((h x).1 List.mem_cons_self) with e | hx
   · exact e
   · rcases List.mem_cons.1 ((h y).2 List.mem_cons_self) with e | hy
     · exact e.symm
     · exact absurd (tr _ _ _ (a1 y hy) (b1 x hx)) (irr x)
  subst hxy
  rw [sorted_ext irr tr l1 l2 a2 b2 fun z => ?_]
  constructor
  · intro hz
    rcases List.mem_cons.1 ((h z).1 (List.mem_cons_of_mem _ hz)) with e | k
    · rw [e] at hz
      exact absurd (a1 x hz) (irr x)
    · exact k
  · intro hz
    rcases List.mem_cons.1 ((h z).2 (List.mem_cons_of_mem _ hz)) with e | k
    · rw [e] at hz
      exact absurd (b1 x hz) (irr x)
    · exact k
theorem dom_lex : ∀ p x : List Int, Dom p x → x = p ∨ lexB p x
 | [], [], _ => .inl rfl
 | [], _ :: _, h => by simp [Dom] at h
 | _ :: _, [], h => by simp [Dom] at h
 | y :: p, z :: x, h => by
  obtain ⟨h1, h2, h3⟩ := h
  have k := h3 1
  have hz : z ≤ y := by simpa [pre] using k
  by_cases e : z = y
  · subst e
    have hd : Dom p x := ⟨by simpa using h1, by simpa using h2, fun m => by
     have := h3 (m + 1)
     simp [pre] at this ⊢
     omega⟩
    rcases dom_lex p x hd with e | e
    · exact .inl (by rw [e])
    · exact .inr (.inr ⟨rfl, e⟩)
  · exact .inr (.inl (by omega))
end Go.Proofs.Ytdkimdlbjeobiaa.A

namespace Go.Proofs.Ytdkimdlbjeobiaa.A
open Go.RowKit Go.Proofs.YtdkimdlbjeobiaaW.PrintWords Go.Proofs.YtdkimdlbjeobiaaW.PrintLast Go.Proofs.YtdkimdlbjeobiaaW.PrintMore
set_option linter.unusedVariables false
set_option linter.unusedSimpArgs false
theorem eqIntS_l (xs ys : List Int) (hx : xs.length ≤ 9223372036854775807) (hl : xs.length = ys.length) : ∀ (n i : Nat), i + n = xs.length → Ev (fun k => laws_eqIntS.l0 k xs ys (i : Int)) (decide (xs.drop i = ys.drop i))
 | 0, i, h => by
  refine Ev.succ ?_
  simp only [laws_eqIntS.l0, if_neg (show ¬ (i : Int) < (xs.length : Int) by omega)]
  rw [List.drop_eq_nil_of_le (by omega), List.drop_eq_nil_of_le (by omega)]
  exact Ev.now _
 | n + 1, i, h => by
  have hi : i < xs.length := by omega
  have hj : i < ys.length := by omega
  refine Ev.succ ?_
  simp only [laws_eqIntS.l0, if_pos (show (i : Int) < (xs.length : Int) by omega), if_pos (show (i : Int) < (ys.length : Int) by omega), if_pos (show (0 : Int) ≤ (i : Int) by omega), rdn hi, rdn hj, wsucc hi hx]
  rw [List.drop_eq_getElem_cons hi, List.drop_eq_getElem_cons hj]
  by_cases c : xs[i] = ys[i]
  · simp only [c, if_true, List.cons.injEq, true_and]
    exact eqIntS_l xs ys hx hl n (i + 1) (by omega)
  · simp only [c, if_false, List.cons.injEq, false_and, decide_false]
    exact Ev.now _
theorem eqIntS_ev (xs ys : List Int) (hx : xs.length ≤ 9223372036854775807) : Ev (fun k => laws_eqIntS.f k xs ys) (decide (xs = ys)) := by
 unfold laws_eqIntS.f
 by_cases h : xs.length = ys.length
 · simp only [if_pos (show (xs.length : Int) = (ys.length : Int) by omega)]
   exact eqIntS_l xs ys hx h xs.length 0 (by omega)
 · simp only [if_neg (show ¬ (xs.length : Int) = (ys.length : Int) by omega)]
   rw [decide_eq_false (fun e => h (by rw [e]))]
   exact Ev.now _
theorem eqIntS_self (xs : List Int) (hx : xs.length ≤ 9223372036854775807) : Ev (fun k => laws_eqIntS.f k xs xs) true := by
 have h := eqIntS_ev xs xs hx
 rw [decide_eq_true rfl] at h
 exact h
end Go.Proofs.Ytdkimdlbjeobiaa.A

namespace Go.Proofs.Ytdkimdlbjeobiaa.A
open Go.RowKit Go.Proofs.YtdkimdlbjeobiaaW.PrintWords Go.Proofs.YtdkimdlbjeobiaaW.PrintLast Go.Proofs.YtdkimdlbjeobiaaW.PrintMore
set_option linter.unusedVariables false
set_option linter.unusedSimpArgs false
def marks (a : Int) (n : Nat) : List Int := (List.range n).map fun (j : Nat) => a + (j : Int)
theorem marks_length (a : Int) (n : Nat) : (marks a n).length = n := by simp [marks]
theorem marks_get (a : Int) (n i : Nat) (h : i < (marks a n).length) : (marks a n)[i] = a + (i : Int) := by simp [marks]
theorem markIntS_l (a : Int) (m : Nat) (h0 : 0 ≤ a) (hm : a + m ≤ 9223372036854775807) : ∀ (n i : Nat) (xs : List Int), i + n = m → xs.length = m → xs.take i = (marks a m).take i → Ev (fun k => laws_markIntS.l0 k xs (a + (i : Int)) (i : Int)) (a + (m : Int), marks a m)
 | 0, i, xs, h, hl, ht => by
  refine Ev.succ ?_
  simp only [laws_markIntS.l0, if_neg (show ¬ (i : Int) < (xs.length : Int) by omega)]
  rw [List.take_of_length_le (by omega), List.take_of_length_le (by rw [marks_length]; omega)] at ht
  rw [ht, show i = m by omega]
  exact Ev.now _
 | n + 1, i, xs, h, hl, ht => by
  have hi : i < xs.length := by omega
  refine Ev.succ ?_
  simp only [laws_markIntS.l0, if_pos (show (i : Int) < (xs.length : Int) by omega), if_pos (show (0 : Int) ≤ (i : Int) by omega), wsucc hi (by omega), Int.toNat_natCast, show wrap64 (a + (i : Int) + 1) = a + ((i + 1 : Nat) : Int) from by rw [w64 (by omega) (by omega)]; omega]
  refine markIntS_l a m h0 hm n (i + 1) _ (by omega) (by rw [List.length_set]; exact hl) ?_
  rw [List.take_add_one, List.take_add_one, List.take_set_of_le (Nat.le_refl _), ht]
  congr 1
  rw [List.getElem?_set_self (by omega), List.getElem?_eq_getElem (by rw [marks_length]; omega), marks_get]
theorem markIntS_ev (xs : List Int) (a : Int) (h0 : 0 ≤ a) (hm : a + xs.length ≤ 9223372036854775807) : Ev (fun k => laws_markIntS.f k xs a) (a + (xs.length : Int), marks a xs.length) := by
 have h := markIntS_l a xs.length h0 hm xs.length 0 xs (by omega) rfl (by simp)
 simp only [show a + ((0 : Nat) : Int) = a by omega] at h
 exact h
theorem heldIntS_l (a : Int) (m : Nat) (h0 : 0 ≤ a) (hm : a + m ≤ 9223372036854775807) : ∀ (n i : Nat), i + n = m → Ev (fun k => laws_heldIntS.l0 k (marks a m) (a + (i : Int)) (i : Int)) (a + (m : Int))
 | 0, i, h => by
  refine Ev.succ ?_
  simp only [laws_heldIntS.l0, marks_length, if_neg (show ¬ (i : Int) < (m : Int) by omega)]
  rw [show i = m by omega]
  exact Ev.now _
 | n + 1, i, h => by
  have hi : i < (marks a m).length := by rw [marks_length]; omega
  refine Ev.succ ?_
  simp only [laws_heldIntS.l0, rdn hi, marks_get, marks_length, if_pos (show (i : Int) < (m : Int) by omega), if_pos (show (0 : Int) ≤ (i : Int) by omega), wsucc hi (by rw [marks_length]; omega), if_true, show wrap64 (a + (i : Int) + 1) = a + ((i + 1 : Nat) : Int) from by rw [w64 (by omega) (by omega)]; omega]
  exact heldIntS_l a m h0 hm n (i + 1) (by omega)
theorem heldIntS_ev (a : Int) (m : Nat) (h0 : 0 ≤ a) (hm : a + m ≤ 9223372036854775807) : Ev (fun k => laws_heldIntS.f k (marks a m) a) (a + (m : Int)) := by
 have h := heldIntS_l a m h0 hm m 0 (by omega)
 simp only [show a + ((0 : Nat) : Int) = a by omega] at h
 exact h
end Go.Proofs.Ytdkimdlbjeobiaa.A

namespace Go.Proofs.Ytdkimdlbjeobiaa.A
open Go.RowKit Go.Proofs.YtdkimdlbjeobiaaW.PrintWords Go.Proofs.YtdkimdlbjeobiaaW.PrintLast Go.Proofs.YtdkimdlbjeobiaaW.PrintMore
set_option linter.unusedVariables false
set_option linter.unusedSimpArgs false
theorem mks_marks (a : Int) (n : Nat) : mks a n = marks a n := rfl
theorem mark_any (xs : List Int) (a : Int) (h0 : 0 ≤ a) (h1 : a + (xs.length : Int) ≤ 9223372036854775807) : ∃ k, laws_markIntS.f k xs a = some (a + (xs.length : Int), mks a xs.length) := Ev.get (markIntS_ev xs a h0 h1)
theorem markSS_get : ∀ (a : Int) (l : List (List Int)) (i : Nat) (h : i < l.length), (markSS a l)[i]'(by rw [markSS_length]; exact h) = mks (a + (totSS (l.take i) : Int)) (l[i]).length
 | a, [], i, h => by simp at h
 | a, x :: l, 0, h => by simp [markSS, totSS]
 | a, x :: l, i + 1, h => by
  have hi : i < l.length := by simpa using h
  have := markSS_get (a + (x.length : Int)) l i hi
  simp only [markSS, List.getElem_cons_succ, List.take_succ_cons]
  rw [this]
  have e : a + (x.length : Int) + (totSS (l.take i) : Int) = a + (totSS (x :: l.take i) : Int) := by simp [totSS]; omega
  rw [e]
theorem rd_L1n {xs : List (List Int)} {i : Nat} (h : i < xs.length) : rd_L1 xs (i : Int) = xs[i] := by
 unfold rd_L1
 rw [Int.toNat_natCast, List.getD_eq_getElem?_getD, List.getElem?_eq_getElem h]
 rfl
theorem heldIntSS_l (a : Int) (L : List (List Int)) (h0 : 0 ≤ a) (hm : a + (totSS L : Int) ≤ 4611686018427387903) (hl : L.length ≤ 4611686018427387903) : ∀ (n i : Nat), i + n = L.length → Ev (fun k => laws_heldIntSS.l0 k (markSS a L) (a + (totSS (L.take i) : Int)) (i : Int)) (a + (totSS L : Int))
 | 0, i, h => by
  refine Ev.succ ?_
  simp only [laws_heldIntSS.l0, markSS_length, if_neg (show ¬ (i : Int) < (L.length : Int) by omega)]
  rw [List.take_of_length_le (by omega)]
  exact Ev.now _
 | n + 1, i, h => by
  have hi : i < L.length := by omega
  have hi' : i < (markSS a L).length := by rw [markSS_length]; exact hi
  have hle := totSS_le L (i + 1)
  rw [totSS_take hi] at hle
  refine Ev.succ ?_
  simp only [laws_heldIntSS.l0, markSS_length, if_pos (show (i : Int) < (L.length : Int) by omega), if_pos (show (0 : Int) ≤ (i : Int) by omega), rd_L1n hi', markSS_get a L i hi, mks_marks, wsucc hi (by omega)]
  refine Ev.bind (heldIntS_ev (a + (totSS (L.take i) : Int)) (L[i]).length (by omega) (by omega)) ?_
  simp only [if_neg (show ¬ a + (totSS (L.take i) : Int) + ((L[i]).length : Int) < 0 by omega)]
  have := heldIntSS_l a L h0 hm hl n (i + 1) (by omega)
  rw [totSS_take hi] at this
  rw [show a + (totSS (L.take i) : Int) + ((L[i]).length : Int) = a + ((totSS (L.take i) + (L[i]).length : Nat) : Int) by omega]
  exact this
theorem heldIntSS_ev (a : Int) (L : List (List Int)) (h0 : 0 ≤ a) (hm : a + (totSS L : Int) ≤ 4611686018427387903) (hl : L.length ≤ 4611686018427387903) : Ev (fun k => laws_heldIntSS.f k (markSS a L) a) (a + (totSS L : Int)) := by
 have h := heldIntSS_l a L h0 hm hl L.length 0 (by omega)
 simp only [List.take_zero] at h
 rw [show a + (totSS ([] : List (List Int)) : Int) = a by simp [totSS]] at h
 exact h
theorem len_tot {l : List (List Int)} {x : List Int} (h : x ∈ l) : x.length ≤ totSS l := by
 induction l with
 | nil => simp at h
 | cons y l ih =>
  simp only [totSS, List.map_cons, List.sum_cons] at *
  rcases List.mem_cons.1 h with rfl | h
  · omega
  · have := ih h
    omega
theorem eqIntSS_l (L : List (List Int)) (hb : totSS L ≤ 4611686018427387903) (hl : L.length ≤ 4611686018427387903) : ∀ (n i : Nat), i + n = L.length → Ev (fun k => laws_eqIntSS.l0 k L L (i : Int)) true
 | 0, i, h => by
  refine Ev.succ ?_
  simp only [laws_eqIntSS.l0, if_neg (show ¬ (i : Int) < (L.length : Int) by omega)]
  exact Ev.now _
 | n + 1, i, h => by
  have hi : i < L.length := by omega
  have hx := len_tot (List.getElem_mem hi)
  refine Ev.succ ?_
  simp only [laws_eqIntSS.l0, if_pos (show (i : Int) < (L.length : Int) by omega), if_pos (show (0 : Int) ≤ (i : Int) by omega), rd_L1n hi, wsucc hi (by omega)]
  refine Ev.bind (eqIntS_self L[i] (by omega)) ?_
  simp only [if_true]
  exact eqIntSS_l L hb hl n (i + 1) (by omega)
theorem eqIntSS_self (L : List (List Int)) (hb : totSS L ≤ 4611686018427387903) (hl : L.length ≤ 4611686018427387903) : Ev (fun k => laws_eqIntSS.f k L L) true := by
 unfold laws_eqIntSS.f
 simp only [if_true]
 exact eqIntSS_l L hb hl L.length 0 (by omega)
end Go.Proofs.Ytdkimdlbjeobiaa.A

namespace Go.Proofs.Ytdkimdlbjeobiaa.A
open Go.RowKit Go.Proofs.YtdkimdlbjeobiaaW.PrintWords Go.Proofs.YtdkimdlbjeobiaaW.PrintLast Go.Proofs.YtdkimdlbjeobiaaW.PrintMore
set_option linter.unusedVariables false
set_option linter.unusedSimpArgs false
/-! LowerCovers: impl's side -/
def covL (a : List Int) : List (List Int) := pickGo majB [] ((undL a).drop 1)
def covR (a : List Int) : List (List Int) × Bool := if goodL a = true then (if a.sum ≤ 30 then (covL a, true) else ([], false)) else ([], false)
theorem covHas_ev (b : List Int) (hb : Sm b) (out : List (List Int)) (ho : ∀ c ∈ out, Sm c) : Ev (fun k => covHas k out b) (out.any fun c => majB b c) := by
 obtain ⟨K, hK⟩ : ∃ K, ∀ k, K ≤ k → ∀ c ∈ out, impl_isMajorized.f k b c = some (majB b c) := by
  induction out with
  | nil => exact ⟨0, fun _ _ x hx => by simp at hx⟩
  | cons y l ih =>
   obtain ⟨K1, h1⟩ := ih (fun x hx => ho x (List.mem_cons_of_mem _ hx))
   obtain ⟨K2, h2⟩ := isMajorized_ev b y hb (ho y List.mem_cons_self)
   refine ⟨max K1 K2, fun k hk x hx => ?_⟩
   rcases List.mem_cons.1 hx with rfl | hx
   · exact h2 k (by omega)
   · exact h1 k (by omega) x hx
 refine ⟨K, fun k hk => ?_⟩
 show covHas k out b = _
 unfold covHas
 rw [if_pos (List.all_eq_true.2 fun c hc => by rw [hK k hk c hc]; rfl)]
 congr 1
 rw [Bool.eq_iff_iff, List.any_eq_true, List.any_eq_true]
 constructor
 · rintro ⟨c, hc, h⟩
   rw [hK k hk c hc] at h
   exact ⟨c, hc, by simpa using h⟩
 · rintro ⟨c, hc, h⟩
   exact ⟨c, hc, by rw [hK k hk c hc, h]; rfl⟩
theorem implCov_l (L : List (List Int)) (hL : ∀ x ∈ L, Sm x) (hl : L.length ≤ 1000000000000) : ∀ (d i : Nat) (out : List (List Int)), i + d = L.length → out.length + d ≤ 1000000000000 → (∀ c ∈ out, Sm c) → Ev (fun k => impl_LowerCovers.l0 k out L (L.length : Int) (i : Int)) (pickGo majB out (L.drop i), true)
 | 0, i, out, e, hb, ho => by
  refine Ev.succ ?_
  simp only [impl_LowerCovers.l0, if_neg (show ¬ (i : Int) < (L.length : Int) by omega)]
  rw [List.drop_eq_nil_of_le (by omega)]
  exact Ev.now _
 | d + 1, i, out, e, hb, ho => by
  have hi : i < L.length := by omega
  refine Ev.succ ?_
  simp only [impl_LowerCovers.l0, if_pos (show (i : Int) < (L.length : Int) by omega), if_pos (show (0 : Int) ≤ (i : Int) by omega), rd_L1n hi, wsucc hi (by omega)]
  rw [List.drop_eq_getElem_cons hi]
  refine Ev.bind (covHas_ev L[i] (hL _ (List.getElem_mem hi)) out ho) ?_
  unfold pickGo
  cases c : out.any (fun c => majB L[i] c) with
  | true =>
   simp only [if_true]
   exact implCov_l L hL hl d (i + 1) out (by omega) (by omega) ho
  | false =>
   simp only [Bool.false_eq_true, if_false, if_pos (show out.length < 5864062014805 by omega)]
   exact implCov_l L hL hl d (i + 1) (out ++ [L[i]]) (by omega) (by rw [List.length_append, List.length_singleton]; omega) (fun c hc => by
    rcases List.mem_append.1 hc with hc | hc
    · exact ho c hc
    · rw [List.mem_singleton.1 hc]
      exact hL _ (List.getElem_mem hi))
theorem implCov_ev (a : List Int) (hg : goodL a = true) (h30 : a.sum ≤ 30) : Ev (fun k => impl_LowerCovers.j0 k a false) (covL a, true) := by
 have hpos := und_pos hg
 have hbd := und_bd a hg h30
 refine Ev.succ ?_
 simp only [impl_LowerCovers.j0, Bool.false_eq_true, if_false]
 refine Ev.bind (implBelow_ev a hg h30) ?_
 simp only [if_pos (show 1 ≤ ((undL a).length : Int) by omega), Option.bind_some]
 have hl : ((undL a).drop 1).length = (undL a).length - 1 := List.length_drop
 have := implCov_l ((undL a).drop 1) (fun x hx => (und_good hg h30 (List.mem_of_mem_drop hx)).2.1) (by omega) ((undL a).drop 1).length 0 [] (by omega) (by simp; omega) (by simp)
 rw [List.drop_zero] at this
 exact this
theorem implLowerCovers_ev (a : List Int) (ha : a.length ≤ 1048576) : Ev (fun k => impl_LowerCovers.f k a) (covR a) := by
 unfold impl_LowerCovers.f covR
 refine Ev.bind (implIsList_ev a (by omega)) (Ev.ite (fun hg => ?_) (fun _ => Ev.succ (by simp only [impl_LowerCovers.j0, if_true]; exact Ev.now _)))
 refine Ev.bind (total_ev a (good_sm hg)) ?_
 by_cases h : a.sum ≤ 30
 · simp only [if_pos h, decide_eq_false (show ¬ a.sum > 30 by omega)]
   exact implCov_ev a hg h
 · simp only [if_neg h, decide_eq_true (show a.sum > 30 by omega)]
   exact Ev.succ (by simp only [impl_LowerCovers.j0, if_true]; exact Ev.now _)
end Go.Proofs.Ytdkimdlbjeobiaa.A

namespace Go.Proofs.Ytdkimdlbjeobiaa.A
open Go.RowKit Go.Proofs.YtdkimdlbjeobiaaW.PrintWords Go.Proofs.YtdkimdlbjeobiaaW.PrintLast Go.Proofs.YtdkimdlbjeobiaaW.PrintMore
set_option linter.unusedVariables false
set_option linter.unusedSimpArgs false
theorem l1Same_l (xs ys : List Int) (hx : xs.length ≤ 9223372036854775807) (hl : xs.length = ys.length) : ∀ (n i : Nat), i + n = xs.length → Ev (fun k => spec_l1Same.l0 k xs ys (xs.length : Int) (i : Int)) (decide (xs.drop i = ys.drop i))
 | 0, i, h => by
  refine Ev.succ ?_
  simp only [spec_l1Same.l0, if_neg (show ¬ (i : Int) < (xs.length : Int) by omega)]
  rw [List.drop_eq_nil_of_le (by omega), List.drop_eq_nil_of_le (by omega)]
  exact Ev.now _
 | n + 1, i, h => by
  have hi : i < xs.length := by omega
  have hj : i < ys.length := by omega
  refine Ev.succ ?_
  simp only [spec_l1Same.l0, if_pos (show (i : Int) < (xs.length : Int) by omega), if_pos (show (i : Int) < (ys.length : Int) by omega), if_pos (show (0 : Int) ≤ (i : Int) by omega), rdn hi, rdn hj, wsucc hi hx]
  rw [List.drop_eq_getElem_cons hi, List.drop_eq_getElem_cons hj]
  by_cases c : xs[i] = ys[i]
  · simp only [c, if_true, List.cons.injEq, true_and]
    exact l1Same_l xs ys hx hl n (i + 1) (by omega)
  · simp only [c, if_false, List.cons.injEq, false_and, decide_false]
    exact Ev.now _
theorem l1Same_ev (xs ys : List Int) (hx : xs.length ≤ 9223372036854775807) : Ev (fun k => spec_l1Same.f k xs ys) (decide (xs = ys)) := by
 unfold spec_l1Same.f
 by_cases h : xs.length = ys.length
 · simp only [if_pos (show (xs.length : Int) = (ys.length : Int) by omega)]
   exact l1Same_l xs ys hx h xs.length 0 (by omega)
 · simp only [if_neg (show ¬ (xs.length : Int) = (ys.length : Int) by omega)]
   rw [decide_eq_false (fun e => h (by rw [e]))]
   exact Ev.now _
end Go.Proofs.Ytdkimdlbjeobiaa.A

namespace Go.Proofs.Ytdkimdlbjeobiaa.A
open Go.RowKit Go.Proofs.YtdkimdlbjeobiaaW.PrintWords Go.Proofs.YtdkimdlbjeobiaaW.PrintLast Go.Proofs.YtdkimdlbjeobiaaW.PrintMore
set_option linter.unusedVariables false
set_option linter.unusedSimpArgs false
/-! LowerCovers: sorted insertion (liLess, liPut) -/
def lexb : List Int → List Int → Bool
 | x :: a, y :: b => if x = y then lexb a b else decide (x > y)
 | _, _ => false
theorem lexb_iff : ∀ a b : List Int, lexb a b = true ↔ lexB a b
 | [], _ => by simp [lexb, lexB]
 | _ :: _, [] => by simp [lexb, lexB]
 | x :: a, y :: b => by
  have ih := lexb_iff a b
  unfold lexb lexB
  by_cases e : x = y
  · rw [if_pos e, ih]
    constructor
    · exact fun h => .inr ⟨e, h⟩
    · rintro (h | ⟨_, h⟩)
      · omega
      · exact h
  · rw [if_neg e, decide_eq_true_iff]
    constructor
    · exact fun h => .inl h
    · rintro (h | ⟨h, _⟩)
      · exact h
      · exact absurd h e
theorem liLess_l (a b : List Int) (hl : a.length = b.length) (ha : a.length ≤ 1000) : ∀ (d i : Nat), i + d = a.length → Ev (fun k => spec_liLess.l0 k a b (a.length : Int) (i : Int)) (lexb (a.drop i) (b.drop i))
 | 0, i, e => by
  refine Ev.succ ?_
  simp only [spec_liLess.l0, if_neg (show ¬ (i : Int) < (a.length : Int) by omega)]
  rw [List.drop_eq_nil_of_le (by omega)]
  exact Ev.now _
 | d + 1, i, e => by
  have hi : i < a.length := by omega
  have hj : i < b.length := by omega
  refine Ev.succ ?_
  simp only [spec_liLess.l0, if_pos (show (i : Int) < (a.length : Int) by omega), if_pos (Int.natCast_nonneg i), if_pos (show (i : Int) < (b.length : Int) by omega), rdn hi, rdn hj, wsucc hi (by omega)]
  rw [List.drop_eq_getElem_cons hi, List.drop_eq_getElem_cons hj]
  unfold lexb
  refine Ev.ite (fun _ => liLess_l a b hl ha d (i + 1) (by omega)) (fun _ => Ev.now _)
theorem liLess_ev (a b : List Int) (hl : a.length = b.length) (ha : a.length ≤ 1000) : Ev (fun k => spec_liLess.f k a b) (lexb a b) := by
 have := liLess_l a b hl ha a.length 0 (by omega)
 rw [List.drop_zero, List.drop_zero] at this
 exact this
def putL (a : List Int) : List (List Int) → List (List Int)
 | [] => [a]
 | c :: l => if lexb c a = true then c :: putL a l else if c = a then c :: l else a :: c :: l
theorem liPut_l (lists : List (List Int)) (a : List Int) (hl : lists.length ≤ 1000000) (hx : ∀ c ∈ lists, c.length = a.length) (ha : a.length ≤ 1000) : ∀ (d i : Nat), i + d = lists.length → Ev (fun k => spec_liPut.l0 k lists a (i : Int)) (lists.take i ++ putL a (lists.drop i))
 | 0, i, e => by
  refine Ev.succ ?_
  have ht : (lists.take i).length = i := by rw [List.length_take]; omega
  have hd : (lists.drop i).length = 0 := by rw [List.length_drop]; omega
  simp only [spec_liPut.l0, if_neg (show ¬ (i : Int) < (lists.length : Int) by omega), Option.bind_some, Int.toNat_natCast, List.nil_append, List.length_nil, List.length_append, List.length_singleton, ht, hd, if_pos (Int.natCast_nonneg i), if_pos (show (i : Int) ≤ (lists.length : Int) by omega), if_pos (show 0 + i < 5864062014805 by omega), if_pos (show i < 5864062014805 by omega), if_pos (show 0 + i + 1 + 0 < 5864062014805 by omega)]
  rw [List.drop_eq_nil_of_le (by omega), List.append_nil]
  exact Ev.now _
 | d + 1, i, e => by
  have hi : i < lists.length := by omega
  have hc := hx _ (List.getElem_mem hi)
  have ht : (lists.take i).length = i := by rw [List.length_take]; omega
  have hd : (lists.drop i).length = d + 1 := by rw [List.length_drop]; omega
  refine Ev.succ ?_
  simp only [spec_liPut.l0, if_pos (show (i : Int) < (lists.length : Int) by omega), if_pos (Int.natCast_nonneg i), rd_L1n hi, wsucc hi (by omega), Option.bind_some, Int.toNat_natCast, List.nil_append, List.length_nil, List.length_append, List.length_singleton, ht, hd, if_pos (show (i : Int) ≤ (lists.length : Int) by omega), if_pos (show 0 + i < 5864062014805 by omega), if_pos (show i < 5864062014805 by omega), if_pos (show 0 + i + 1 + (d + 1) < 5864062014805 by omega)]
  refine Ev.bind (liLess_ev lists[i] a hc (by omega)) ?_
  cases c : lexb lists[i] a with
  | true =>
   simp only [if_true]
   have := liPut_l lists a hl hx ha d (i + 1) (by omega)
   rw [← List.take_append_getElem hi, List.append_assoc] at this
   rw [List.drop_eq_getElem_cons hi]
   unfold putL
   rw [if_pos c]
   exact this
  | false =>
   simp only [Bool.false_eq_true, if_false]
   refine Ev.bind (l1Same_ev lists[i] a (by omega)) ?_
   rw [List.drop_eq_getElem_cons hi]
   unfold putL
   by_cases e2 : lists[i] = a
   · simp only [decide_eq_true e2, if_true, c, Bool.false_eq_true, if_false, if_pos e2]
     rw [← List.drop_eq_getElem_cons hi, List.take_append_drop]
     exact Ev.now _
   · simp only [decide_eq_false e2, Bool.false_eq_true, if_false, c, if_neg e2]
     rw [List.append_assoc]
     exact Ev.now _
end Go.Proofs.Ytdkimdlbjeobiaa.A

namespace Go.Proofs.Ytdkimdlbjeobiaa.A
open Go.RowKit Go.Proofs.YtdkimdlbjeobiaaW.PrintWords Go.Proofs.YtdkimdlbjeobiaaW.PrintLast Go.Proofs.YtdkimdlbjeobiaaW.PrintMore
set_option linter.unusedVariables false
set_option linter.unusedSimpArgs false
/-! LowerCovers: spec's loops -/
def gsP (b c : List Int) : Bool := decide (b = c) || !(majB b c)
theorem specCov_l1 (G : List (List Int)) (hG : ∀ x ∈ G, Sm x) (hl : G.length ≤ 1000000) (out : List (List Int)) (b : List Int) (hb : Sm b) (i : Int) (r : List (List Int) × Bool) : ∀ (d j : Nat) (gr : Bool), j + d = G.length → Ev (fun k => if (gr && (G.drop j).all (gsP b)) = true then (spec_liPut.f k out b).bind fun t => spec_LowerCovers.l0 k G t G (G.length : Int) (wrap64 (i + 1)) else spec_LowerCovers.l0 k G out G (G.length : Int) (wrap64 (i + 1))) r → Ev (fun k => spec_LowerCovers.l1 k G out b gr G (G.length : Int) i G (G.length : Int) (j : Int)) r
 | 0, j, gr, e, hr => by
  rw [List.drop_eq_nil_of_le (by omega), List.all_nil, Bool.and_true] at hr
  refine Ev.succ ?_
  simp only [spec_LowerCovers.l1, if_neg (show ¬ (j : Int) < (G.length : Int) by omega)]
  exact hr
 | d + 1, j, gr, e, hr => by
  have hj : j < G.length := by omega
  rw [List.drop_eq_getElem_cons hj, List.all_cons] at hr
  refine Ev.succ ?_
  simp only [spec_LowerCovers.l1, if_pos (show (j : Int) < (G.length : Int) by omega), if_pos (Int.natCast_nonneg j), rd_L1n hj, wsucc hj (by omega)]
  cases gr with
  | false =>
   simp only [Bool.false_eq_true, if_false]
   refine specCov_l1 G hG hl out b hb i r d (j + 1) false (by omega) ?_
   simpa using hr
  | true =>
   simp only [if_true]
   have hgs := hG _ (List.getElem_mem hj)
   refine Ev.bind (l1Same_ev b G[j] (by have := hb.1; omega)) ?_
   by_cases c : b = G[j]
   · simp only [decide_eq_true c, if_true]
     refine specCov_l1 G hG hl out b hb i r d (j + 1) true (by omega) ?_
     have : gsP b G[j] = true := by unfold gsP; rw [decide_eq_true c]; rfl
     rw [this, Bool.true_and] at hr
     exact hr
   · simp only [decide_eq_false c, Bool.false_eq_true, if_false]
     refine Ev.bind (liBelow_ev b G[j] hb hgs) ?_
     refine specCov_l1 G hG hl out b hb i r d (j + 1) (!(majB b G[j])) (by omega) ?_
     have : gsP b G[j] = !(majB b G[j]) := by unfold gsP; rw [decide_eq_false c]; rfl
     rw [this, Bool.true_and] at hr
     exact hr
theorem putL_len (a : List Int) : ∀ l : List (List Int), (putL a l).length ≤ l.length + 1
 | [] => by simp [putL]
 | c :: l => by
  have := putL_len a l
  unfold putL
  split
  · simp only [List.length_cons]; omega
  · split
    · simp only [List.length_cons]; omega
    · simp only [List.length_cons]; omega
theorem putL_sub (a : List Int) : ∀ (l : List (List Int)) (x : List Int), x ∈ putL a l → x = a ∨ x ∈ l
 | [], x, h => by
  have : x = a := by simpa [putL] using h
  exact .inl this
 | c :: l, x, h => by
  unfold putL at h
  split at h
  · rcases List.mem_cons.1 h with e | h
    · exact .inr (by rw [e]; exact List.mem_cons_self)
    · rcases putL_sub a l x h with e | h
      · exact .inl e
      · exact .inr (List.mem_cons_of_mem _ h)
  · split at h
    · exact .inr h
    · rcases List.mem_cons.1 h with e | h
      · exact .inl e
      · exact .inr h
def covF (G : List (List Int)) (out : List (List Int)) (b : List Int) : List (List Int) := if G.all (gsP b) = true then putL b out else out
theorem specCov_l0 (G : List (List Int)) (hG : ∀ x ∈ G, Sm x) (hl : G.length ≤ 100000) (n : Nat) (hn : n ≤ 1000) (hGn : ∀ x ∈ G, x.length = n) : ∀ (d i : Nat) (out : List (List Int)), i + d = G.length → out.length + d ≤ 1000000 → (∀ c ∈ out, c.length = n) → Ev (fun k => spec_LowerCovers.l0 k G out G (G.length : Int) (i : Int)) ((G.drop i).foldl (covF G) out, true)
 | 0, i, out, e, hb, ho => by
  refine Ev.succ ?_
  simp only [spec_LowerCovers.l0, if_neg (show ¬ (i : Int) < (G.length : Int) by omega)]
  rw [List.drop_eq_nil_of_le (by omega)]
  exact Ev.now _
 | d + 1, i, out, e, hb, ho => by
  have hi : i < G.length := by omega
  have hm := List.getElem_mem hi
  refine Ev.succ ?_
  simp only [spec_LowerCovers.l0, if_pos (show (i : Int) < (G.length : Int) by omega), if_pos (Int.natCast_nonneg i), rd_L1n hi]
  rw [List.drop_eq_getElem_cons hi, List.foldl_cons]
  refine specCov_l1 G hG (by omega) out G[i] (hG _ hm) (i : Int) _ G.length 0 true (by omega) ?_
  rw [List.drop_zero, Bool.true_and, wsucc hi (by omega)]
  unfold covF
  by_cases c : G.all (gsP G[i]) = true
  · simp only [if_pos c]
    have hput := liPut_l out G[i] (by omega) (fun x hx => by rw [ho x hx, hGn _ hm]) (by rw [hGn _ hm]; exact hn) out.length 0 (by omega)
    rw [List.take_zero, List.nil_append, List.drop_zero] at hput
    refine Ev.bind (show Ev (fun k => spec_liPut.f k out G[i]) _ from hput) ?_
    have hlen := putL_len G[i] out
    exact specCov_l0 G hG hl n hn hGn d (i + 1) _ (by omega) (by omega) (fun x hx => by
     rcases putL_sub _ _ x hx with e | hx
     · rw [e, hGn _ hm]
     · exact ho x hx)
  · simp only [if_neg c]
    exact specCov_l0 G hG hl n hn hGn d (i + 1) out (by omega) (by omega) ho
end Go.Proofs.Ytdkimdlbjeobiaa.A

namespace Go.Proofs.Ytdkimdlbjeobiaa.A
open Go.RowKit Go.Proofs.YtdkimdlbjeobiaaW.PrintWords Go.Proofs.YtdkimdlbjeobiaaW.PrintLast Go.Proofs.YtdkimdlbjeobiaaW.PrintMore
set_option linter.unusedVariables false
set_option linter.unusedSimpArgs false
/-! putL keeps the order -/
theorem putL_sorted (a : List Int) : ∀ l : List (List Int), l.Pairwise lexB → (∀ c ∈ l, c.length = a.length) → (putL a l).Pairwise lexB ∧ ∀ x, x ∈ putL a l ↔ x = a ∨ x ∈ l
 | [], _, _ => by
  unfold putL
  exact ⟨List.pairwise_singleton _ _, fun x => by simp⟩
 | c :: l, hs, hl => by
  obtain ⟨h1, h2⟩ := List.pairwise_cons.1 hs
  obtain ⟨i1, i2⟩ := putL_sorted a l h2 (fun x hx => hl x (List.mem_cons_of_mem _ hx))
  unfold putL
  by_cases e : lexb c a = true
  · rw [if_pos e]
    have hca := (lexb_iff c a).1 e
    refine ⟨List.pairwise_cons.2 ⟨fun x hx => ?_, i1⟩, fun x => ?_⟩
    · rcases (i2 x).1 hx with k | k
      · rw [k]
        exact hca
      · exact h1 x k
    · rw [List.mem_cons, i2, List.mem_cons]
      constructor
      · rintro (k | k | k)
        · exact .inr (.inl k)
        · exact .inl k
        · exact .inr (.inr k)
      · rintro (k | k | k)
        · exact .inr (.inl k)
        · exact .inl k
        · exact .inr (.inr k)
  · rw [if_neg e]
    by_cases e2 : c = a
    · rw [if_pos e2]
      refine ⟨hs, fun x => ⟨fun h => .inr h, ?_⟩⟩
      rintro (k | k)
      · rw [k, ← e2]
        exact List.mem_cons_self
      · exact k
    · rw [if_neg e2]
      have hac : lexB a c := by
       rcases lexB_total c a (hl c List.mem_cons_self) with k | k | k
       · exact absurd k e2
       · exact absurd ((lexb_iff c a).2 k) e
       · exact k
      refine ⟨List.pairwise_cons.2 ⟨fun x hx => ?_, hs⟩, fun x => List.mem_cons⟩
      rcases List.mem_cons.1 hx with k | k
      · rw [k]
        exact hac
      · exact lexB_trans _ _ _ hac (h1 x k)
theorem covF_sorted (G : List (List Int)) (n : Nat) : ∀ (L out : List (List Int)), (∀ x ∈ L, x.length = n) → out.Pairwise lexB → (∀ x ∈ out, x.length = n) → (L.foldl (covF G) out).Pairwise lexB ∧ ∀ x, x ∈ L.foldl (covF G) out ↔ x ∈ out ∨ (x ∈ L ∧ G.all (gsP x) = true)
 | [], out, _, h, _ => ⟨h, fun x => by simp⟩
 | b :: L, out, hL, h, ho => by
  rw [List.foldl_cons]
  have hb := hL b List.mem_cons_self
  have hL' := fun x hx => hL x (List.mem_cons_of_mem b hx)
  by_cases c : G.all (gsP b) = true
  · have e : covF G out b = putL b out := by unfold covF; rw [if_pos c]
    obtain ⟨p1, p2⟩ := putL_sorted b out h (fun x hx => by rw [ho x hx, hb])
    rw [e]
    obtain ⟨k1, k2⟩ := covF_sorted G n L (putL b out) hL' p1 (fun x hx => by
     rcases (p2 x).1 hx with k | k
     · rw [k, hb]
     · exact ho x k)
    refine ⟨k1, fun x => ?_⟩
    rw [k2, p2, List.mem_cons]
    constructor
    · rintro ((k | k) | ⟨k, g⟩)
      · exact .inr ⟨.inl k, by rw [k]; exact c⟩
      · exact .inl k
      · exact .inr ⟨.inr k, g⟩
    · rintro (k | ⟨k | k, g⟩)
      · exact .inl (.inr k)
      · exact .inl (.inl k)
      · exact .inr ⟨k, g⟩
  · have e : covF G out b = out := by unfold covF; rw [if_neg c]
    rw [e]
    obtain ⟨k1, k2⟩ := covF_sorted G n L out hL' h ho
    refine ⟨k1, fun x => ?_⟩
    rw [k2, List.mem_cons]
    constructor
    · rintro (k | ⟨k, g⟩)
      · exact .inl k
      · exact .inr ⟨.inr k, g⟩
    · rintro (k | ⟨k | k, g⟩)
      · exact .inl k
      · rw [k] at g
        exact absurd g c
      · exact .inr ⟨k, g⟩
end Go.Proofs.Ytdkimdlbjeobiaa.A

namespace Go.Proofs.Ytdkimdlbjeobiaa.A
open Go.RowKit Go.Proofs.YtdkimdlbjeobiaaW.PrintWords Go.Proofs.YtdkimdlbjeobiaaW.PrintLast Go.Proofs.YtdkimdlbjeobiaaW.PrintMore
set_option linter.unusedVariables false
set_option linter.unusedSimpArgs false
end Go.Proofs.Ytdkimdlbjeobiaa.A

namespace Go.Proofs.Ytdkimdlbjeobiaa.A
open Go.RowKit Go.Proofs.YtdkimdlbjeobiaaW.PrintWords Go.Proofs.YtdkimdlbjeobiaaW.PrintLast Go.Proofs.YtdkimdlbjeobiaaW.PrintMore
set_option linter.unusedVariables false
set_option linter.unusedSimpArgs false
end Go.Proofs.Ytdkimdlbjeobiaa.A

namespace Go.Proofs.Ytdkimdlbjeobiaa.A
open Go.RowKit Go.Proofs.YtdkimdlbjeobiaaW.PrintWords Go.Proofs.YtdkimdlbjeobiaaW.PrintLast Go.Proofs.YtdkimdlbjeobiaaW.PrintMore
set_option linter.unusedVariables false
set_option linter.unusedSimpArgs false
def sqS (l : List Int) : Int := (l.map fun x => x * x).sum
theorem sum_map_set (g : Int → Int) : ∀ (l : List Int) (i : Nat) (h : i < l.length) (v : Int), ((l.set i v).map g).sum = (l.map g).sum - g l[i] + g v
 | x :: l, 0, h, v => by simp; omega
 | x :: l, i + 1, h, v => by
  have := sum_map_set g l i (by simpa using h) v
  simp only [List.set_cons_succ, List.map_cons, List.sum_cons, List.getElem_cons_succ]
  omega
theorem sum_map_set_rd (g : Int → Int) (l : List Int) (i : Int) (h0 : 0 ≤ i) (h1 : i < l.length) (v : Int) : ((l.set i.toNat v).map g).sum = (l.map g).sum - g (rd l i) + g v := by
 have hi : i.toNat < l.length := by omega
 have e : rd l i = l[i.toNat] := rdi h0 h1
 rw [sum_map_set g l i.toNat hi v, e]
theorem kindB_iff (l : List Int) (f t a : Int) : kindB l f t a = true ↔ isG l f t a = true ∧ a ≤ 60 ∧ rd l t + a ≤ rd l f - a := by
 unfold kindB
 simp only [Bool.and_eq_true, decide_eq_true_eq]
theorem fall_ring (x y a : Int) : x * x + y * y - ((x - a) * (x - a) + (y + a) * (y + a)) = 2 * a * (x - y - a) := by grind
theorem sqS_give (l : List Int) (f t a : Int) (h1 : 0 ≤ f ∧ f < l.length) (h2 : 0 ≤ t ∧ t < l.length) (h3 : f ≠ t) : sqS l - sqS (giveL l f t a) = 2 * a * (rd l f - rd l t - a) := by
 unfold sqS giveL
 rw [sum_map_set_rd _ _ t h2.1 (by rw [List.length_set]; exact h2.2), sum_map_set_rd _ _ f h1.1 h1.2, rd_set_ne _ h1.1 h2.1 h3]
 have := fall_ring (rd l f) (rd l t) a
 omega
end Go.Proofs.Ytdkimdlbjeobiaa.A

namespace Go.Proofs.Ytdkimdlbjeobiaa.A
open Go.RowKit Go.Proofs.YtdkimdlbjeobiaaW.PrintWords Go.Proofs.YtdkimdlbjeobiaaW.PrintLast Go.Proofs.YtdkimdlbjeobiaaW.PrintMore
set_option linter.unusedVariables false
set_option linter.unusedSimpArgs false
/-! a kind gift leaves a more even list; lists that are mixed or stacked -/
theorem ex_set (l : List Int) (i : Int) (h0 : 0 ≤ i) (h1 : i < l.length) (v t : Int) : ex (l.set i.toNat v) t = ex l t - max (rd l i - t) 0 + max (v - t) 0 := sum_map_set_rd (fun x => max (x - t) 0) l i h0 h1 v
theorem ex_give (l : List Int) (f t a : Int) (h1 : 0 ≤ f ∧ f < l.length) (h2 : 0 ≤ t ∧ t < l.length) (h3 : f ≠ t) (s : Int) : ex (giveL l f t a) s = ex l s - max (rd l f - s) 0 + max (rd l f - a - s) 0 - max (rd l t - s) 0 + max (rd l t + a - s) 0 := by
 unfold giveL
 rw [ex_set _ t h2.1 (by rw [List.length_set]; exact h2.2), ex_set _ f h1.1 h1.2, rd_set_ne _ h1.1 h2.1 h3]
theorem sum_set (l : List Int) (i : Int) (h0 : 0 ≤ i) (h1 : i < l.length) (v : Int) : (l.set i.toNat v).sum = l.sum - rd l i + v := by
 have h := sum_map_set_rd (fun x => x) l i h0 h1 v
 simpa using h
theorem give_sum (l : List Int) (f t a : Int) (h1 : 0 ≤ f ∧ f < l.length) (h2 : 0 ≤ t ∧ t < l.length) (h3 : f ≠ t) : (giveL l f t a).sum = l.sum := by
 unfold giveL
 rw [sum_set _ t h2.1 (by rw [List.length_set]; exact h2.2), sum_set _ f h1.1 h1.2, rd_set_ne _ h1.1 h2.1 h3]
 omega
theorem kind_maj {l : List Int} {f t a : Int} (hk : kindB l f t a = true) : majB (giveL l f t a) l = true := by
 obtain ⟨hG, c1, c2⟩ := (kindB_iff l f t a).1 hk
 obtain ⟨h1, h2, h3, h4⟩ := (isG_iff l f t a).1 hG
 refine (maj_ex _ _).2 ⟨giveL_length l f t a, give_sum l f t a h1 h2 h3, fun s => ?_⟩
 rw [ex_give l f t a h1 h2 h3]
 omega
theorem sqS_perm {a b : List Int} (h : a.Perm b) : sqS a = sqS b := perm_sum (h.map _)
theorem kind_fall {l : List Int} {f t a : Int} (hk : kindB l f t a = true) : 0 < 2 * a * (rd l f - rd l t - a) := by
 obtain ⟨hG, c1, c2⟩ := (kindB_iff l f t a).1 hk
 obtain ⟨h1, h2, h3, h4⟩ := (isG_iff l f t a).1 hG
 exact Int.mul_pos (by omega) (by omega)
theorem kind_not {l : List Int} {f t a : Int} (hk : kindB l f t a = true) : majB l (giveL l f t a) = false := by
 refine Bool.eq_false_iff.2 fun h => ?_
 have e := maj_antisymm h (kind_maj hk)
 obtain ⟨hG, c1, c2⟩ := (kindB_iff l f t a).1 hk
 obtain ⟨h1, h2, h3, h4⟩ := (isG_iff l f t a).1 hG
 have s := sqS_give l f t a h1 h2 h3
 have p := kind_fall hk
 rw [← sqS_perm (descL_perm l), e, sqS_perm (descL_perm (giveL l f t a))] at s
 omega
end Go.Proofs.Ytdkimdlbjeobiaa.A

namespace Go.Proofs.Ytdkimdlbjeobiaa.A
open Go.RowKit Go.Proofs.YtdkimdlbjeobiaaW.PrintWords Go.Proofs.YtdkimdlbjeobiaaW.PrintLast Go.Proofs.YtdkimdlbjeobiaaW.PrintMore
set_option linter.unusedVariables false
set_option linter.unusedSimpArgs false
end Go.Proofs.Ytdkimdlbjeobiaa.A

namespace Go.Proofs.Ytdkimdlbjeobiaa.A
open Go.RowKit Go.Proofs.YtdkimdlbjeobiaaW.PrintWords Go.Proofs.YtdkimdlbjeobiaaW.PrintLast Go.Proofs.YtdkimdlbjeobiaaW.PrintMore
set_option linter.unusedVariables false
set_option linter.unusedSimpArgs false
structure Gv (x t : List Int) (i j : Nat) (a : Int) : Prop extends Nx x t i j where
 pos : 1 ≤ a
 ai : a ≤ rd x (i : Int) - rd t (i : Int)
 aj : a ≤ rd t (j : Int) - rd x (j : Int)
theorem gv_pre {x t : List Int} {i j : Nat} {a : Int} (hl : x.length = t.length) (g : Gv x t i j a) (hp : ∀ m, pre t m ≤ pre x m) : ∀ m : Nat, i < m → m ≤ j → pre t m + a ≤ pre x m
 | 0, h, _ => by omega
 | m + 1, h, h2 => by
  have := g.hj
  rw [pre_succ (by omega), pre_succ (by omega)]
  rcases Nat.lt_or_ge i m with hlt | hge
  · have := gv_pre hl g hp m hlt (by omega)
    have := g.bef m (by omega)
    omega
  · have : m = i := by omega
    subst this
    have := hp m
    have := g.ai
    omega
theorem gv_dom {x t : List Int} {i j : Nat} {a : Int} (hd : Dom x t) (g : Gv x t i j a) : Dom (giveL x (i : Int) (j : Int) a) t := by
 obtain ⟨hl, hs, hp⟩ := hd
 have h1 := g.lt
 have h2 := g.hj
 refine ⟨by rw [giveL_length]; exact hl, by rw [giveL_sum x i j a (by omega) h2 (by omega)]; exact hs, fun m => ?_⟩
 rcases Nat.lt_or_ge x.length m with hm | hm
 · rw [pre_all (by omega), pre_all (by rw [giveL_length]; omega), giveL_sum x i j a (by omega) h2 (by omega)]
   omega
 · rw [giveL_pre x i j a (by omega) h2 (by omega) m hm]
   have := hp m
   by_cases c1 : i < m
   · by_cases c2 : j < m
     · rw [if_pos c1, if_pos c2]; omega
     · rw [if_pos c1, if_neg c2]
       have := gv_pre hl g hp m c1 (by omega)
       omega
   · rw [if_neg c1, if_neg (by omega)]; omega
theorem gv_desc {x t : List Int} {i j : Nat} {a : Int} (hl : x.length = t.length) (hx : Desc x) (ht : Desc t) (g : Gv x t i j a) : Desc (giveL x (i : Int) (j : Int) a) := by
 have h1 := g.lt
 have h2 := g.hj
 have h3 := g.ai
 have h4 := g.aj
 refine desc_of_rd fun k hk => ?_
 rw [giveL_length] at hk
 rw [giveL_rd x i j a (by omega) h2 (by omega), giveL_rd x i j a (by omega) h2 (by omega)]
 have dx := desc_rd hx (a := k) (b := k + 1) (by omega) hk
 have dt := desc_rd ht (a := k) (b := k + 1) (by omega) (by omega)
 have hpos := g.pos
 by_cases c1 : k + 1 = j
 · rw [if_pos c1]
   by_cases c2 : k = i
   · rw [if_neg (by omega), if_pos c2]
     rw [c1, c2] at dt
     omega
   · rw [if_neg (by omega), if_neg c2]
     have := g.bef k (by omega)
     rw [c1] at dt
     omega
 · rw [if_neg c1]
   by_cases c2 : k + 1 = i
   · rw [if_pos c2, if_neg (by omega), if_neg (by omega)]
     rw [c2] at dx
     omega
   · rw [if_neg c2]
     by_cases c3 : k = j
     · rw [if_pos c3]
       rw [c3] at dx
       rw [c3]
       omega
     · rw [if_neg c3]
       by_cases c4 : k = i
       · rw [if_pos c4]
         have hb := g.btw (k + 1) (by omega) (by omega)
         rw [c4] at dt hb
         rw [c4]
         omega
       · rw [if_neg c4]
         exact dx
end Go.Proofs.Ytdkimdlbjeobiaa.A

namespace Go.Proofs.Ytdkimdlbjeobiaa.A
open Go.RowKit Go.Proofs.YtdkimdlbjeobiaaW.PrintWords Go.Proofs.YtdkimdlbjeobiaaW.PrintLast Go.Proofs.YtdkimdlbjeobiaaW.PrintMore
set_option linter.unusedVariables false
set_option linter.unusedSimpArgs false
/-! LowerCovers: the covers that spec tells are those of impl -/
theorem und_head {a : List Int} (hg : goodL a = true) : undL a = descL a :: (undL a).drop 1 := by
 have hs : (undL a).Pairwise lexB := (allL_sorted a.length a.sum a.sum).filter _
 have hp := und_rank hg
 cases e : undL a with
 | nil =>
  rw [e] at hp
  simp at hp
 | cons h t =>
  have hh : h ∈ undL a := by rw [e]; exact List.mem_cons_self
  rw [e] at hs hp
  obtain ⟨h1, h2, h3⟩ := (und_mem hg h).1 hh
  have hd := (majB_dom _ _).1 h3
  rw [descL_of_desc h1] at hd
  have : h = descL a := by
   rcases List.mem_cons.1 hp with k | k
   · exact k.symm
   · rcases dom_lex _ _ hd with k2 | k2
     · exact k2
     · exact absurd (lexB_trans _ _ _ k2 ((List.pairwise_cons.1 hs).1 _ k)) (lexB_irrefl _)
  rw [this]
  rfl
theorem undT_sorted {a : List Int} : ((undL a).drop 1).Pairwise lexB := by
 have hs : (undL a).Pairwise lexB := (allL_sorted a.length a.sum a.sum).filter _
 exact hs.sublist (List.drop_sublist 1 _)
theorem undT_mem {a : List Int} (hg : goodL a = true) (x : List Int) : x ∈ (undL a).drop 1 ↔ x ∈ undL a ∧ x ≠ descL a := by
 have hs : (undL a).Pairwise lexB := (allL_sorted a.length a.sum a.sum).filter _
 have e := und_head hg
 rw [e] at hs
 constructor
 · intro h
   refine ⟨List.mem_of_mem_drop h, fun k => ?_⟩
   have := (List.pairwise_cons.1 hs).1 x h
   rw [k] at this
   exact lexB_irrefl _ this
 · rintro ⟨h, k⟩
   rw [e] at h
   rcases List.mem_cons.1 h with h | h
   · exact absurd h k
   · exact h
theorem ugAll_mem (p : List Int) (x : List Int) : x ∈ ugAll p 0 p.length ↔ ∃ i j : Nat, i < p.length ∧ j < p.length ∧ rd p (i : Int) ≥ rd p (j : Int) + 2 ∧ x = descL (giveL p (i : Int) (j : Int) 1) := by
 unfold ugAll ugRow
 rw [List.mem_flatMap]
 constructor
 · rintro ⟨i, hi, hx⟩
   obtain ⟨j, hj, hx⟩ := List.mem_filterMap.1 hx
   rw [List.mem_range'_1] at hi hj
   unfold ugF at hx
   split at hx
   · next c => exact ⟨i, j, by omega, by omega, c, by simpa using hx.symm⟩
   · cases hx
 · rintro ⟨i, j, hi, hj, c, e⟩
   refine ⟨i, List.mem_range'_1.2 (by omega), List.mem_filterMap.2 ⟨j, List.mem_range'_1.2 (by omega), ?_⟩⟩
   unfold ugF
   rw [if_pos c, e]
theorem ug_und {a : List Int} (hg : goodL a = true) {x : List Int} (hx : x ∈ ugAll (descL a) 0 (descL a).length) : x ∈ (undL a).drop 1 := by
 obtain ⟨i, j, hi, hj, c, rfl⟩ := (ugAll_mem _ _).1 hx
 have hgp : goodL (descL a) = true := by rw [good_desc]; exact hg
 have hij : i ≠ j := fun e => by rw [e] at c; omega
 have hk : kindB (descL a) (i : Int) (j : Int) 1 = true := (kindB_iff _ _ _ _).2 ⟨(isG_iff _ _ _ _).2 ⟨by omega, by omega, by omega, by omega⟩, by omega, by omega⟩
 have b1 := rd_good hgp (i := (i : Int)) (by omega) (by omega)
 have b2 := rd_good hgp (i := (j : Int)) (by omega) (by omega)
 have hgg : goodL (giveL (descL a) (i : Int) (j : Int) 1) = true := (give_good (descL a) (i : Int) (j : Int) _ _ hgp (by omega) (by omega) (by omega)).2 (by omega)
 have hm := kind_maj hk
 have hnn : ∀ y ∈ giveL (descL a) (i : Int) (j : Int) 1, 0 ≤ y := fun y hy => ((good_sm hgg).2 y hy).1
 have hsum : (giveL (descL a) (i : Int) (j : Int) 1).sum = a.sum := by rw [giveL_sum _ i j 1 hi hj hij, descL_sum]
 refine (undT_mem hg _).2 ⟨(und_mem hg _).2 ⟨descL_desc _, fun y hy => ?_, ?_⟩, fun k => ?_⟩
 · have hy := descL_mem.1 hy
   have := mem_le_sum _ hnn hy
   have := hnn y hy
   omega
 · rw [maj_desc_l]
   rw [maj_desc_r] at hm
   exact hm
 · have hn := kind_not hk
   rw [← maj_desc_r, k, maj_refl] at hn
   cases hn
theorem und_ug {a : List Int} (hg : goodL a = true) {x : List Int} (hx : x ∈ (undL a).drop 1) : ∃ g ∈ ugAll (descL a) 0 (descL a).length, majB x g = true := by
 obtain ⟨hu, hne⟩ := (undT_mem hg x).1 hx
 obtain ⟨h1, h2, h3⟩ := (und_mem hg x).1 hu
 have hd := (majB_dom _ _).1 h3
 rw [descL_of_desc h1] at hd
 obtain ⟨i, j, hn⟩ := nx_exists hd (fun e => hne e.symm)
 have g : Gv (descL a) x i j 1 := ⟨hn, by omega, by have := hn.igt; omega, by have := hn.jlt; omega⟩
 have hij := hn.lt
 have hj := hn.hj
 have hl := hd.1
 have q1 := hn.igt
 have q2 := hn.jlt
 have q3 := desc_rd h1 (a := i) (b := j) (by omega) (by omega)
 refine ⟨_, (ugAll_mem _ _).2 ⟨i, j, by omega, hj, by omega, rfl⟩, ?_⟩
 rw [maj_desc_r, majB_dom, descL_of_desc h1, descL_of_desc (gv_desc hd.1 (descL_desc a) h1 g)]
 exact gv_dom hd g
theorem spec_covL {a : List Int} (hg : goodL a = true) : (ugAll (descL a) 0 (descL a).length).foldl (covF (ugAll (descL a) 0 (descL a).length)) [] = covL a := by
 have hlen : ∀ x ∈ undL a, x.length = a.length := fun x hx => ((majB_iff x a).1 ((und_mem hg x).1 hx).2.2).1
 have hT := fun x (hx : x ∈ ugAll (descL a) 0 (descL a).length) => ug_und hg hx
 have hdesc : ∀ x ∈ (undL a).drop 1, Desc x := fun x hx => ((und_mem hg x).1 (List.mem_of_mem_drop hx)).1
 obtain ⟨s1, m1⟩ := covF_sorted (ugAll (descL a) 0 (descL a).length) a.length (ugAll (descL a) 0 (descL a).length) [] (fun x hx => hlen x (List.mem_of_mem_drop (hT x hx))) List.Pairwise.nil (by simp)
 have hcov : covL a = ((undL a).drop 1).filter fun b => ((undL a).drop 1).all fun c => !(majB b c) || decide (b = c) := by
  unfold covL
  exact pick_step majB lexB lexB_irrefl lexB_trans ((undL a).drop 1) undT_sorted (fun b hb c hc hle hne => by
   have hd := (majB_dom _ _).1 hle
   rw [descL_of_desc (hdesc b hb), descL_of_desc (hdesc c hc)] at hd
   rcases dom_lex _ _ hd with k | k
   · exact absurd k hne
   · exact k) (fun _ _ _ _ _ _ h k => maj_trans h k) _ [] rfl
 rw [hcov]
 refine sorted_ext lexB_irrefl lexB_trans _ _ s1 (undT_sorted.filter _) fun x => ?_
 have anti : ∀ x ∈ (undL a).drop 1, ∀ y ∈ (undL a).drop 1, majB x y = true → majB y x = true → x = y := fun x hx y hy h k => by
  have := maj_antisymm h k
  rw [descL_of_desc (hdesc x hx), descL_of_desc (hdesc y hy)] at this
  exact this
 rw [m1, List.mem_filter, List.all_eq_true, List.all_eq_true]
 constructor
 · rintro (h | ⟨h, k⟩)
   · simp at h
   · refine ⟨hT x h, fun c hc => ?_⟩
     cases hm : majB x c with
     | false => rfl
     | true =>
      obtain ⟨g, hgm, hcg⟩ := und_ug hg hc
      have hxg := maj_trans hm hcg
      have := k g hgm
      unfold gsP at this
      rw [hxg] at this
      have e : x = g := by simpa using this
      rw [← e] at hcg
      have := anti x (hT x h) c hc hm hcg
      simp [this]
 · rintro ⟨h, k⟩
   right
   obtain ⟨g, hgm, hxg⟩ := und_ug hg h
   have e := k g (hT g hgm)
   rw [hxg] at e
   have e : x = g := by simpa using e
   refine ⟨by rw [e]; exact hgm, fun c hc => ?_⟩
   have := k c (hT c hc)
   unfold gsP
   cases hm : majB x c with
   | false => simp
   | true =>
    rw [hm] at this
    have : x = c := by simpa using this
    simp [this]
theorem ugAll_le (p : List Int) : ∀ (d i : Nat), (ugAll p i d).length ≤ d * p.length
 | 0, i => by simp [ugAll]
 | d + 1, i => by
  rw [ugAll_succ, List.length_append, Nat.succ_mul]
  have := ugAll_le p d (i + 1)
  have := ugRow_le p i 0 p.length
  omega
theorem specLowerCovers_ev (a : List Int) (ha : a.length ≤ 1048576) : Ev (fun k => spec_LowerCovers.f k a) (covR a) := by
 unfold spec_LowerCovers.f covR
 refine Ev.bind (liGood_ev a (by omega)) (Ev.ite (fun hg => ?_) (fun _ => Ev.succ (by simp only [spec_LowerCovers.j0, if_true]; exact Ev.now _)))
 refine Ev.bind (liSum_ev a (good_sm hg)) ?_
 by_cases h : a.sum ≤ 30
 · simp only [if_pos h, decide_eq_false (show ¬ a.sum > 30 by omega)]
   refine Ev.succ ?_
   simp only [spec_LowerCovers.j0, Bool.false_eq_true, if_false]
   have hs := good_sm hg
   have hl := good_len hg
   have hgp : goodL (descL a) = true := by rw [good_desc]; exact hg
   refine Ev.bind (liRank_ev a (by omega)) (Ev.bind (specGifts_ev (descL a) (good_sm hgp)) ?_)
   have hT := fun x (hx : x ∈ ugAll (descL a) 0 (descL a).length) => ug_und hg hx
   have hb := ugAll_le (descL a) (descL a).length 0
   have hdl := descL_length a
   have hb2 : (descL a).length * (descL a).length ≤ 8 * 8 := Nat.mul_le_mul (by omega) (by omega)
   have := specCov_l0 (ugAll (descL a) 0 (descL a).length) (fun x hx => (und_good hg h (List.mem_of_mem_drop (hT x hx))).2.1) (by omega) a.length (by omega) (fun x hx => (und_good hg h (List.mem_of_mem_drop (hT x hx))).2.2.2.1) (ugAll (descL a) 0 (descL a).length).length 0 [] (by omega) (by simp; omega) (by simp)
   rw [List.drop_zero, spec_covL hg] at this
   exact this
 · simp only [if_neg h, decide_eq_true (show a.sum > 30 by omega)]
   exact Ev.succ (by simp only [spec_LowerCovers.j0, if_true]; exact Ev.now _)
theorem pickGo_sub {α : Type} (le : α → α → Bool) : ∀ (l out : List α) (x : α), x ∈ pickGo le out l → x ∈ out ∨ x ∈ l
 | [], out, x, h => .inl h
 | b :: l, out, x, h => by
  unfold pickGo at h
  rcases pickGo_sub le l _ x h with k | k
  · split at k
    · exact .inl k
    · rcases List.mem_append.1 k with k | k
      · exact .inl k
      · rw [List.mem_singleton.1 k]
        exact .inr List.mem_cons_self
  · exact .inr (List.mem_cons_of_mem _ k)
theorem pickGo_len {α : Type} (le : α → α → Bool) : ∀ (l out : List α), (pickGo le out l).length ≤ out.length + l.length
 | [], out => by simp [pickGo]
 | b :: l, out => by
  unfold pickGo
  have := pickGo_len le l (if out.any (fun c => le b c) = true then out else out ++ [b])
  have h2 : (if out.any (fun c => le b c) = true then out else out ++ [b]).length ≤ out.length + 1 := by
   split
   · omega
   · rw [List.length_append, List.length_singleton]
     omega
  rw [List.length_cons]
  omega
theorem cov_sub {a x : List Int} (h : x ∈ covL a) : x ∈ (undL a).drop 1 := by
 unfold covL at h
 rcases pickGo_sub _ _ _ _ h with k | k
 · simp at k
 · exact k
theorem covR_bd (a : List Int) : totSS (covR a).1 ≤ 8 * 852891037441 ∧ (covR a).1.length ≤ 852891037441 := by
 have h0 : totSS ([] : List (List Int)) ≤ 8 * 852891037441 ∧ ([] : List (List Int)).length ≤ 852891037441 := by simp [totSS]
 unfold covR
 split
 · next hg =>
   split
   · next h =>
     have hb := und_bd a hg h
     have hc : (covL a).length ≤ (undL a).length := by
      have := pickGo_len majB ((undL a).drop 1) []
      rw [List.length_drop] at this
      unfold covL
      simp at this ⊢
      omega
     have ht := tot_le (l := covL a) (B := 8) (fun x hx => by have := und_good hg h (List.mem_of_mem_drop (cov_sub hx)); have := good_len hg; omega)
     exact ⟨by show totSS (covL a) ≤ _; omega, by show (covL a).length ≤ _; omega⟩
   · exact h0
 · exact h0
end Go.Proofs.Ytdkimdlbjeobiaa.A

namespace Go.Proofs.Ytdkimdlbjeobiaa.A
open Go.RowKit Go.Proofs.YtdkimdlbjeobiaaW.PrintWords Go.Proofs.YtdkimdlbjeobiaaW.PrintLast Go.Proofs.YtdkimdlbjeobiaaW.PrintMore
set_option linter.unusedVariables false
set_option linter.unusedSimpArgs false
theorem toIntS_l (xs : List Int) (hx : xs.length ≤ 35184372088832) : ∀ (n i : Nat) (ys : List Int), i + n = xs.length → ys.length = xs.length → ys.take i = xs.take i → Ev (fun k => laws_toIntS.l0 k xs ys (i : Int)) xs
 | 0, i, ys, h, hl, ht => by
  refine Ev.succ ?_
  simp only [laws_toIntS.l0, if_neg (show ¬ (i : Int) < (xs.length : Int) by omega)]
  rw [List.take_of_length_le (by omega), List.take_of_length_le (by omega)] at ht
  rw [ht]
  exact Ev.now _
 | n + 1, i, ys, h, hl, ht => by
  have hi : i < xs.length := by omega
  refine Ev.succ ?_
  simp only [laws_toIntS.l0, if_pos (show (i : Int) < (xs.length : Int) by omega), if_pos (show (i : Int) < (ys.length : Int) by omega), if_pos (show (0 : Int) ≤ (i : Int) by omega), rdn hi, wsucc hi (by omega), Int.toNat_natCast]
  refine toIntS_l xs hx n (i + 1) _ (by omega) (by rw [List.length_set]; exact hl) ?_
  rw [List.take_add_one, List.take_add_one, List.take_set_of_le (Nat.le_refl _), ht]
  congr 1
  rw [List.getElem?_set_self (by omega), List.getElem?_eq_getElem hi]
theorem toIntS_ev (xs : List Int) (hx : xs.length ≤ 35184372088832) : Ev (fun k => laws_toIntS.f k xs) xs := by
 unfold laws_toIntS.f
 simp only [if_pos (show (0 : Int) ≤ (xs.length : Int) by omega), Int.toNat_natCast, if_pos hx]
 exact toIntS_l xs hx xs.length 0 _ (by omega) (by simp) (by simp)
end Go.Proofs.Ytdkimdlbjeobiaa.A

namespace Go.Proofs.Ytdkimdlbjeobiaa.A
open Go.RowKit Go.Proofs.YtdkimdlbjeobiaaW.PrintWords Go.Proofs.YtdkimdlbjeobiaaW.PrintLast Go.Proofs.YtdkimdlbjeobiaaW.PrintMore
set_option linter.unusedVariables false
set_option linter.unusedSimpArgs false
set_option maxHeartbeats 8000000 in
set_option maxRecDepth 100000 in
theorem FnExactLowerCovers_walk (A0 : Option Addr) (c0 : Nat) (l0 : List Int) (W : World) (hr0 : Kd.C (Kd.int .i64) W A0 l0.length l0) (hc0 : l0.length ≤ c0) (m0 : l0.length ≤ maxLen) :
 Calls Try.prog 3 #[.slice A0 l0.length c0] W fun e w' => e = .returned (.bool true) ∧ Below W.heap.size W w' := by
 have HR0 := Aside0.mk hr0
 have HC0 := Aside0.mk hc0
 have HB := Aside0.mk (Below.refl W.heap.size W)
 (try clear hr0); (try clear hc0)
 by_cases q0 : (l0.length : Int) > 1048576
 · have q0b : decide ((l0.length : Int) > 1048576) = true := decide_eq_true q0
   (try clear q0); (try clear m0)
   go_enter Try.func3, Try.ntmps3
   go_wp2
   go_ret
   exact ⟨rfl, (by repeat (first | (with_reducible first | exact HB.out | apply below_alloc | apply pw_below_drewN | apply below_drew1) | exact HB.out))⟩
 have q0b : decide ((l0.length : Int) > 1048576) = false := decide_eq_false q0
 obtain ⟨kt0, ht0⟩ := Ev.get (toIntS_ev l0 (by omega))
 have AT0 := Aside0.mk ht0
 obtain ⟨kS, hS⟩ := Ev.get (specLowerCovers_ev l0 (by omega))
 obtain ⟨kI, hI⟩ := Ev.get (implLowerCovers_ev l0 (by omega))
 have hbd := covR_bd l0
 generalize covR l0 = R at hS hI hbd
 obtain ⟨L0, b⟩ := R
 simp only at hbd
 obtain ⟨hb0, hb1⟩ := hbd
 have AS := Aside0.mk hS
 have AI := Aside0.mk hI
 have hbb : (b != b) = false := by simp
 obtain ⟨kAE0, hAE0⟩ := Ev.get (eqIntSS_self L0 (by omega) (by omega))
 obtain ⟨kAE1, hAE1⟩ := Ev.get (eqIntS_self l0 (by omega))
 obtain ⟨T0, hT0⟩ : ∃ T : Int, T = 1 + (l0.length : Int) := ⟨_, rfl⟩
 obtain ⟨kAK0, hAK0⟩ := Ev.get (markIntS_ev l0 1 (by omega) (by omega))
 rw [← hT0] at hAK0
 obtain ⟨M0, hM0⟩ : ∃ M, M = marks 1 l0.length := ⟨_, rfl⟩
 have hM0l : M0.length = l0.length := by rw [hM0, marks_length]
 rw [← hM0] at hAK0
 have qT0 : decide (T0 < 0) = false := decide_eq_false (by omega)
 have qT0n : (T0 != T0) = false := by simp
 obtain ⟨T1, hT1⟩ : ∃ T : Int, T = 1 + (totSS L0 : Int) := ⟨_, rfl⟩
 have hAK1 := fun (v : Value) (W W' : World) (P : Nat → Prop) (hB : Below W.heap.size W W') (hS : Kd.S (Kd.slice 3 (Kd.int .i64)) 22 W' W.heap.size P v L0) => markSS_calls mark_any P v L0 1 W W' (by omega) (by omega) (by omega) hB hS
 rw [← hT1] at hAK1
 obtain ⟨M1, hM1⟩ : ∃ M, M = markSS 1 L0 := ⟨_, rfl⟩
 have hM1l : M1.length = L0.length := by rw [hM1, markSS_length]
 rw [← hM1] at hAK1
 have qT1 : decide (T1 < 0) = false := decide_eq_false (by omega)
 have qT1n : (T1 != T1) = false := by simp
 obtain ⟨kAH1, hhAH1⟩ := Ev.get (heldIntSS_ev 1 L0 (by omega) (by omega) (by omega))
 rw [← hM1, ← hT1] at hhAH1
 have hAH1 : ∀ (A : Option Addr) (c : Nat) (w' : World), (∃ P : Nat → Prop, Kd.S (Kd.slice 3 (Kd.int .i64)) 22 w' W.heap.size P (.slice A L0.length c) M1) → Calls Try.prog 13 #[.slice A L0.length c, .int .i64 1] w' fun e w'' => e = .returned (.int .i64 T1) ∧ Drawn0 w' w'' := fun A c w' hS' => by
  obtain ⟨P, hS⟩ := hS'
  have h1 := (Kd.S_reads' hS).2
  rw [← hM1l] at h1 ⊢
  exact laws_heldIntSS.calls kAH1 A c M1 1 T1 w' h1.2 h1.1 hhAH1
 have AE0 := Aside0.mk hAE0
 have AE1 := Aside0.mk hAE1
 have AK0 := Aside0.mk hAK0
 have AK1 := Aside0.mk hAK1
 have AH1 := Aside0.mk hAH1
 obtain ⟨n0, hn0⟩ : ∃ n, n = W.heap.size := ⟨_, rfl⟩
 have HN := Aside0.mk (Nat.le_of_eq hn0)
 (try clear hAE0); (try clear hAE1); (try clear hAK0); (try clear hAK1); (try clear hAH1); (try clear hhAH1); (try clear hT0); (try clear hM0); (try clear hT1); (try clear hM1); (try clear hM0l); (try clear hM1l); (try clear hS); (try clear hI); (try clear hn0); (try clear hb0); (try clear hb1); (try clear ht0); (try clear m0); (try clear q0)
 go_enter Try.func3, Try.ntmps3
 go_upto_region 4 with (first | ((with_reducible refine gate_callee (f := 7) rfl ?_); refine goesL_ (some 18) rfl rfl Try.func7 (by kernel_rfl) rfl #[.slice A0 l0.length c0] rfl (by (try simp only [List.map_toArray, List.map_cons, List.map_nil]); first | done | rfl | (simp only [List.length_drop, List.length_take]; rfl)) ?_; (with_reducible refine (laws_toIntS.calls kt0 _ _ l0 l0 _ ?side1 ?side2 AT0.out).mono ?_); (case side1 => exact (Kd.C_below HR0.out (by repeat (first | (with_reducible first | exact HB.out | apply below_alloc | apply pw_below_drewN | apply below_drew1) | exact HB.out)))); (case side2 => exact HC0.out); rintro e w1 ⟨vv0, rfl, ho0, hb⟩; refine ⟨_, rfl, ?_⟩; obtain ⟨n1, hn_⟩ : ∃ n, n = w1.heap.size := ⟨_, rfl⟩; have HLn1 := Aside0.mk (show n0 ≤ n1 from Nat.le_trans HN.out (Nat.le_trans hb.size (Nat.le_of_eq hn_.symm))); have HV0 := Aside0.mk (Kd.R_mono (ok' := fun k => n0 ≤ k ∧ k < n1) (Kd.R_lower (Kd.R_bound ho0) (below_size (by repeat (first | (with_reducible first | exact HB.out | apply below_alloc | apply pw_below_drewN | apply below_drew1) | exact HB.out)))) (fun k hk => ⟨Nat.le_trans HN.out hk.2.1, by have := hk.2.2.1; omega⟩)); have HB2 := Aside0.mk (below_step (by repeat (first | (with_reducible first | exact HB.out | apply below_alloc | apply pw_below_drewN | apply below_drew1) | exact HB.out)) hb); have HN2_ := Aside0.mk (Nat.le_of_eq hn_); clear HB HN hb hn_ ho0; have HB := HB2; have HN := HN2_; clear HB2 HN2_ ; obtain ⟨B0, cc0, es_⟩ := Kd.R_slice HV0.out; subst es_) | ((with_reducible refine gate_callee (f := 6) rfl ?_); refine goesL_ (some 19) rfl rfl Try.func6 (by kernel_rfl) rfl #[.slice B0 l0.length cc0] rfl (by (try simp only [List.map_toArray, List.map_cons, List.map_nil]); first | done | rfl | (simp only [List.length_drop, List.length_take]; rfl)) ?_; (with_reducible refine (spec_LowerCovers.calls kS _ _ l0 L0 b _ ?side1 ?side2 AS.out).mono ?_); (case side1 => exact (Kd.R_reads' (by (with_reducible repeat (first | apply Kd.R_alloc | apply Kd.R_drewN | apply Kd.R_drew)); exact HV0.out)).2.2); (case side2 => exact (Kd.R_reads' HV0.out).2.1); rintro e w2 ⟨vv0, rfl, ho0, hb⟩; refine ⟨_, rfl, ?_⟩; obtain ⟨n2, hn_⟩ : ∃ n, n = w2.heap.size := ⟨_, rfl⟩; have HLn2 := Aside0.mk (show n1 ≤ n2 from Nat.le_trans HN.out (Nat.le_trans hb.size (Nat.le_of_eq hn_.symm))); have HV1 := Aside0.mk (Kd.V_mono (ok' := fun k => n1 ≤ k ∧ k < n2) (Kd.V_lower (Kd.V_bound ho0) (below_size (by repeat (first | (with_reducible first | exact HB.out | apply below_alloc | apply pw_below_drewN | apply below_drew1) | exact HB.out)))) (fun k hk => ⟨Nat.le_trans HN.out hk.1, by have := hk.2; omega⟩)); have HV02 := Aside0.mk (Kd.R_below (by (with_reducible repeat (first | apply Kd.R_alloc | apply Kd.R_drewN | apply Kd.R_drew)); exact HV0.out) hb); have HB2 := Aside0.mk (below_step (by repeat (first | (with_reducible first | exact HB.out | apply below_alloc | apply pw_below_drewN | apply below_drew1) | exact HB.out)) hb); have HN2_ := Aside0.mk (Nat.le_of_eq hn_); clear HB HN hb hn_ ho0 HV0; have HB := HB2; have HN := HN2_; have HV0 := HV02; clear HB2 HN2_ HV02; obtain ⟨B1, cc1, es_⟩ := Kd.V_slice HV1.out; subst es_))
 go_upto_region 5 with (first | ((with_reducible refine gate_callee (f := 7) rfl ?_); refine goesL_ (some 23) rfl rfl Try.func7 (by kernel_rfl) rfl #[.slice A0 l0.length c0] rfl (by (try simp only [List.map_toArray, List.map_cons, List.map_nil]); first | done | rfl | (simp only [List.length_drop, List.length_take]; rfl)) ?_; (with_reducible refine (laws_toIntS.calls kt0 _ _ l0 l0 _ ?side1 ?side2 AT0.out).mono ?_); (case side1 => exact (Kd.C_below HR0.out (by repeat (first | (with_reducible first | exact HB.out | apply below_alloc | apply pw_below_drewN | apply below_drew1) | exact HB.out)))); (case side2 => exact HC0.out); rintro e w3 ⟨vv0, rfl, ho0, hb⟩; refine ⟨_, rfl, ?_⟩; obtain ⟨n3, hn_⟩ : ∃ n, n = w3.heap.size := ⟨_, rfl⟩; have HLn3 := Aside0.mk (show n2 ≤ n3 from Nat.le_trans HN.out (Nat.le_trans hb.size (Nat.le_of_eq hn_.symm))); have HV2 := Aside0.mk (Kd.R_mono (ok' := fun k => n2 ≤ k ∧ k < n3) (Kd.R_lower (Kd.R_bound ho0) (below_size (by repeat (first | (with_reducible first | exact HB.out | apply below_alloc | apply pw_below_drewN | apply below_drew1) | exact HB.out)))) (fun k hk => ⟨Nat.le_trans HN.out hk.2.1, by have := hk.2.2.1; omega⟩)); have HV02 := Aside0.mk (Kd.R_below (by (with_reducible repeat (first | apply Kd.R_alloc | apply Kd.R_drewN | apply Kd.R_drew)); exact HV0.out) hb); have HV12 := Aside0.mk (Kd.V_below (by (with_reducible repeat (first | apply Kd.V_alloc | apply Kd.V_drewN | apply Kd.V_drew)); exact HV1.out) hb); have HB2 := Aside0.mk (below_step (by repeat (first | (with_reducible first | exact HB.out | apply below_alloc | apply pw_below_drewN | apply below_drew1) | exact HB.out)) hb); have HN2_ := Aside0.mk (Nat.le_of_eq hn_); clear HB HN hb hn_ ho0 HV0 HV1; have HB := HB2; have HN := HN2_; have HV0 := HV02; have HV1 := HV12; clear HB2 HN2_ HV02 HV12; obtain ⟨B2, cc2, es_⟩ := Kd.R_slice HV2.out; subst es_))
 go_upto_region 6 with (first | ((with_reducible refine gate_callee (f := 8) rfl ?_); refine goesL_ (some 26) rfl rfl Try.func8 (by kernel_rfl) rfl #[.slice B2 l0.length cc2] rfl (by (try simp only [List.map_toArray, List.map_cons, List.map_nil]); first | done | rfl | (simp only [List.length_drop, List.length_take]; rfl)) ?_; (with_reducible refine (impl_LowerCovers.calls kI _ _ l0 L0 b _ ?side1 ?side2 AI.out).mono ?_); (case side1 => exact (Kd.R_reads' (by (with_reducible repeat (first | apply Kd.R_alloc | apply Kd.R_drewN | apply Kd.R_drew)); exact HV2.out)).2.2); (case side2 => exact (Kd.R_reads' HV2.out).2.1); rintro e w4 ⟨vv0, rfl, ho0, hb⟩; refine ⟨_, rfl, ?_⟩; obtain ⟨n4, hn_⟩ : ∃ n, n = w4.heap.size := ⟨_, rfl⟩; have HLn4 := Aside0.mk (show n3 ≤ n4 from Nat.le_trans HN.out (Nat.le_trans hb.size (Nat.le_of_eq hn_.symm))); have HV3 := Aside0.mk (Kd.S_mono (ok' := fun k => n3 ≤ k ∧ k < n4) (Kd.S_lower (Kd.S_bound ho0) (below_size (by repeat (first | (with_reducible first | exact HB.out | apply below_alloc | apply pw_below_drewN | apply below_drew1) | exact HB.out)))) (fun k hk => ⟨Nat.le_trans HN.out hk.2.1, by have := hk.2.2.1; omega⟩)); have HV02 := Aside0.mk (Kd.R_below (by (with_reducible repeat (first | apply Kd.R_alloc | apply Kd.R_drewN | apply Kd.R_drew)); exact HV0.out) hb); have HV12 := Aside0.mk (Kd.V_below (by (with_reducible repeat (first | apply Kd.V_alloc | apply Kd.V_drewN | apply Kd.V_drew)); exact HV1.out) hb); have HV22 := Aside0.mk (Kd.R_below (by (with_reducible repeat (first | apply Kd.R_alloc | apply Kd.R_drewN | apply Kd.R_drew)); exact HV2.out) hb); have HB2 := Aside0.mk (below_step (by repeat (first | (with_reducible first | exact HB.out | apply below_alloc | apply pw_below_drewN | apply below_drew1) | exact HB.out)) hb); have HN2_ := Aside0.mk (Nat.le_of_eq hn_); clear HB HN hb hn_ ho0 HV0 HV1 HV2; have HB := HB2; have HN := HN2_; have HV0 := HV02; have HV1 := HV12; have HV2 := HV22; clear HB2 HN2_ HV02 HV12 HV22; obtain ⟨B3, cc3, es_⟩ := Kd.S_slice HV3.out; subst es_))
 go_upto_region 8 with (first | ((with_reducible refine gate_callee (f := 9) rfl ?_); refine goesL_ (some 31) rfl rfl Try.func9 (by kernel_rfl) rfl #[.slice B3 L0.length cc3, .slice B1 L0.length cc1] rfl (by (try simp only [List.map_toArray, List.map_cons, List.map_nil]); first | done | rfl | (simp only [List.length_drop, List.length_take]; rfl)) ?_; (with_reducible refine (laws_eqIntSS.calls kAE0 _ _ L0 _ _ L0 true _ ?side1 ?side2 ?side3 ?side4 AE0.out).mono ?_); (case side1 => exact (Kd.S_reads' (by (with_reducible repeat (first | apply Kd.S_alloc | apply Kd.S_drewN | apply Kd.S_drew)); exact HV3.out)).2.2); (case side2 => exact (Kd.S_reads' HV3.out).2.1); (case side3 => exact (Kd.V_reads' (by (with_reducible repeat (first | apply Kd.V_alloc | apply Kd.V_drewN | apply Kd.V_drew)); exact HV1.out)).2.2); (case side4 => exact (Kd.V_reads' HV1.out).2.1); rintro e w' ⟨rfl, ⟨nd, rfl⟩⟩; refine ⟨_, rfl, ?_⟩))
 go_upto_region 11 with (first | ((with_reducible refine gate_callee (f := 7) rfl ?_); refine goesL_ (some 40) rfl rfl Try.func7 (by kernel_rfl) rfl #[.slice A0 l0.length c0] rfl (by (try simp only [List.map_toArray, List.map_cons, List.map_nil]); first | done | rfl | (simp only [List.length_drop, List.length_take]; rfl)) ?_; (with_reducible refine (laws_toIntS.calls kt0 _ _ l0 l0 _ ?side1 ?side2 AT0.out).mono ?_); (case side1 => exact (Kd.C_below HR0.out (by repeat (first | (with_reducible first | exact HB.out | apply below_alloc | apply pw_below_drewN | apply below_drew1) | exact HB.out)))); (case side2 => exact HC0.out); rintro e w5 ⟨vv0, rfl, ho0, hb⟩; refine ⟨_, rfl, ?_⟩; obtain ⟨n5, hn_⟩ : ∃ n, n = w5.heap.size := ⟨_, rfl⟩; have HLn5 := Aside0.mk (show n4 ≤ n5 from Nat.le_trans HN.out (Nat.le_trans hb.size (Nat.le_of_eq hn_.symm))); have HV4 := Aside0.mk (Kd.R_mono (ok' := fun k => n4 ≤ k ∧ k < n5) (Kd.R_lower (Kd.R_bound ho0) (below_size (by repeat (first | (with_reducible first | exact HB.out | apply below_alloc | apply pw_below_drewN | apply below_drew1) | exact HB.out)))) (fun k hk => ⟨Nat.le_trans HN.out hk.2.1, by have := hk.2.2.1; omega⟩)); have HV02 := Aside0.mk (Kd.R_below (by (with_reducible repeat (first | apply Kd.R_alloc | apply Kd.R_drewN | apply Kd.R_drew)); exact HV0.out) hb); have HV12 := Aside0.mk (Kd.V_below (by (with_reducible repeat (first | apply Kd.V_alloc | apply Kd.V_drewN | apply Kd.V_drew)); exact HV1.out) hb); have HV22 := Aside0.mk (Kd.R_below (by (with_reducible repeat (first | apply Kd.R_alloc | apply Kd.R_drewN | apply Kd.R_drew)); exact HV2.out) hb); have HV32 := Aside0.mk (Kd.S_below (by (with_reducible repeat (first | apply Kd.S_alloc | apply Kd.S_drewN | apply Kd.S_drew)); exact HV3.out) hb); have HB2 := Aside0.mk (below_step (by repeat (first | (with_reducible first | exact HB.out | apply below_alloc | apply pw_below_drewN | apply below_drew1) | exact HB.out)) hb); have HN2_ := Aside0.mk (Nat.le_of_eq hn_); clear HB HN hb hn_ ho0 HV0 HV1 HV2 HV3; have HB := HB2; have HN := HN2_; have HV0 := HV02; have HV1 := HV12; have HV2 := HV22; have HV3 := HV32; clear HB2 HN2_ HV02 HV12 HV22 HV32; obtain ⟨B4, cc4, es_⟩ := Kd.R_slice HV4.out; subst es_) | ((with_reducible refine gate_callee (f := 10) rfl ?_); refine goesL_ (some 41) rfl rfl Try.func10 (by kernel_rfl) rfl #[.slice B2 l0.length cc2, .slice B4 l0.length cc4] rfl (by (try simp only [List.map_toArray, List.map_cons, List.map_nil]); first | done | rfl | (simp only [List.length_drop, List.length_take]; rfl)) ?_; (with_reducible refine (laws_eqIntS.calls kAE1 _ _ l0 _ _ l0 true _ ?side1 ?side2 ?side3 ?side4 AE1.out).mono ?_); (case side1 => exact (Kd.R_reads' (by (with_reducible repeat (first | apply Kd.R_alloc | apply Kd.R_drewN | apply Kd.R_drew)); exact HV2.out)).2.2); (case side2 => exact (Kd.R_reads' HV2.out).2.1); (case side3 => exact (Kd.R_reads' (by (with_reducible repeat (first | apply Kd.R_alloc | apply Kd.R_drewN | apply Kd.R_drew)); exact HV4.out)).2.2); (case side4 => exact (Kd.R_reads' HV4.out).2.1); rintro e w' ⟨rfl, ⟨nd, rfl⟩⟩; refine ⟨_, rfl, ?_⟩))
 go_upto_region 12 with (first | ((with_reducible refine gate_callee (f := 11) rfl ?_); refine goesL_ (some 45) rfl rfl Try.func11 (by kernel_rfl) rfl #[.slice B2 l0.length cc2, .int .i64 1] rfl (by (try simp only [List.map_toArray, List.map_cons, List.map_nil]); first | done | rfl | (simp only [List.length_drop, List.length_take]; rfl)) ?_; (with_reducible refine (laws_markIntS.calls kAK0 (fun k => n2 ≤ k ∧ k < n3) _ l0 1 T0 M0 W _ ?side1 ?side2 AK0.out).mono ?_); (case side1 => exact (by repeat (first | (with_reducible first | exact HB.out | apply below_alloc | apply pw_below_drewN | apply below_drew1) | exact HB.out))); (case side2 => exact (by (with_reducible repeat (first | apply Kd.R_alloc | apply Kd.R_drewN | apply Kd.R_drew)); exact HV2.out)); rintro e w6 ⟨rfl, ho, hb, hk⟩; refine ⟨_, rfl, ?_⟩; have HV02 := Aside0.mk (Kd.R_kept (by (with_reducible repeat (first | apply Kd.R_alloc | apply Kd.R_drewN | apply Kd.R_drew)); exact HV0.out) hk (fun k h1 h2 => by obtain ⟨a1, a2⟩ := h1; obtain ⟨b1, b2⟩ := h2; have zn1 := HLn1.out; have zn2 := HLn2.out; have zn3 := HLn3.out; have zn4 := HLn4.out; have zn5 := HLn5.out; omega)); have HV12 := Aside0.mk (Kd.V_kept (by (with_reducible repeat (first | apply Kd.V_alloc | apply Kd.V_drewN | apply Kd.V_drew)); exact HV1.out) hk (fun k h1 h2 => by obtain ⟨a1, a2⟩ := h1; obtain ⟨b1, b2⟩ := h2; have zn1 := HLn1.out; have zn2 := HLn2.out; have zn3 := HLn3.out; have zn4 := HLn4.out; have zn5 := HLn5.out; omega)); have HV32 := Aside0.mk (Kd.S_kept (by (with_reducible repeat (first | apply Kd.S_alloc | apply Kd.S_drewN | apply Kd.S_drew)); exact HV3.out) hk (fun k h1 h2 => by obtain ⟨a1, a2⟩ := h1; obtain ⟨b1, b2⟩ := h2; have zn1 := HLn1.out; have zn2 := HLn2.out; have zn3 := HLn3.out; have zn4 := HLn4.out; have zn5 := HLn5.out; omega)); have HV42 := Aside0.mk (Kd.R_kept (by (with_reducible repeat (first | apply Kd.R_alloc | apply Kd.R_drewN | apply Kd.R_drew)); exact HV4.out) hk (fun k h1 h2 => by obtain ⟨a1, a2⟩ := h1; obtain ⟨b1, b2⟩ := h2; have zn1 := HLn1.out; have zn2 := HLn2.out; have zn3 := HLn3.out; have zn4 := HLn4.out; have zn5 := HLn5.out; omega)); have HO2_ := Aside0.mk ho; have HB2 := Aside0.mk hb; have HN2_ := Aside0.mk (Nat.le_trans HN.out hk.1); clear ho hb hk HB HN HV0 HV1 HV2 HV3 HV4; have HB := HB2; have HN := HN2_; have HV0 := HV02; have HV1 := HV12; have HV3 := HV32; have HV4 := HV42; clear HB2 HN2_ HO2_ HV02 HV12 HV32 HV42))
 go_upto_region 15 with (first | (go_at_call 9; (with_reducible refine (laws_eqIntSS.calls kAE0 _ _ L0 _ _ L0 true _ ?side1 ?side2 ?side3 ?side4 AE0.out).mono ?_); (case side1 => exact (Kd.S_reads' (by (with_reducible repeat (first | apply Kd.S_alloc | apply Kd.S_drewN | apply Kd.S_drew)); exact HV3.out)).2.2); (case side2 => exact (Kd.S_reads' HV3.out).2.1); (case side3 => exact (Kd.V_reads' (by (with_reducible repeat (first | apply Kd.V_alloc | apply Kd.V_drewN | apply Kd.V_drew)); exact HV1.out)).2.2); (case side4 => exact (Kd.V_reads' HV1.out).2.1); rintro e w' ⟨rfl, ⟨nd, rfl⟩⟩))
 go_upto_region 17 with (first | ((with_reducible refine gate_callee (f := 12) rfl ?_); refine goesL_ (some 61) rfl rfl Try.func12 (by kernel_rfl) rfl #[.slice B3 L0.length cc3, .int .i64 1] rfl (by (try simp only [List.map_toArray, List.map_cons, List.map_nil]); first | done | rfl | (simp only [List.length_drop, List.length_take]; rfl)) ?_; (with_reducible refine (AK1.out _ W _ (fun k => n3 ≤ k ∧ k < n4) ?side1 ?side2).mono ?_); (case side1 => exact (by repeat (first | (with_reducible first | exact HB.out | apply below_alloc | apply pw_below_drewN | apply below_drew1) | exact HB.out))); (case side2 => exact (by (with_reducible repeat (first | apply Kd.S_alloc | apply Kd.S_drewN | apply Kd.S_drew)); exact HV3.out)); rintro e w7 ⟨rfl, ho, hb, hk⟩; refine ⟨_, rfl, ?_⟩; have HV02 := Aside0.mk (Kd.R_kept (by (with_reducible repeat (first | apply Kd.R_alloc | apply Kd.R_drewN | apply Kd.R_drew)); exact HV0.out) hk (fun k h1 h2 => by obtain ⟨a1, a2⟩ := h1; obtain ⟨b1, b2⟩ := h2; have zn1 := HLn1.out; have zn2 := HLn2.out; have zn3 := HLn3.out; have zn4 := HLn4.out; have zn5 := HLn5.out; omega)); have HV12 := Aside0.mk (Kd.V_kept (by (with_reducible repeat (first | apply Kd.V_alloc | apply Kd.V_drewN | apply Kd.V_drew)); exact HV1.out) hk (fun k h1 h2 => by obtain ⟨a1, a2⟩ := h1; obtain ⟨b1, b2⟩ := h2; have zn1 := HLn1.out; have zn2 := HLn2.out; have zn3 := HLn3.out; have zn4 := HLn4.out; have zn5 := HLn5.out; omega)); have HV42 := Aside0.mk (Kd.R_kept (by (with_reducible repeat (first | apply Kd.R_alloc | apply Kd.R_drewN | apply Kd.R_drew)); exact HV4.out) hk (fun k h1 h2 => by obtain ⟨a1, a2⟩ := h1; obtain ⟨b1, b2⟩ := h2; have zn1 := HLn1.out; have zn2 := HLn2.out; have zn3 := HLn3.out; have zn4 := HLn4.out; have zn5 := HLn5.out; omega)); have HO2_ := Aside0.mk ho; have HB2 := Aside0.mk hb; have HN2_ := Aside0.mk (Nat.le_trans HN.out hk.1); clear ho hb hk HB HN HV0 HV1 HV3 HV4; have HB := HB2; have HN := HN2_; have HV0 := HV02; have HV1 := HV12; have HV4 := HV42; have HV3 := HO2_; clear HB2 HN2_ HO2_ HV02 HV12 HV42))
 go_upto_region 22 with (first | ((with_reducible refine gate_callee (f := 13) rfl ?_); refine goesL_ (some 64) rfl rfl Try.func13 (by kernel_rfl) rfl #[.slice B3 L0.length cc3, .int .i64 1] rfl (by (try simp only [List.map_toArray, List.map_cons, List.map_nil]); first | done | rfl | (simp only [List.length_drop, List.length_take]; rfl)) ?_; (with_reducible refine (AH1.out B3 cc3 _ ?side1).mono ?_); (case side1 => exact ⟨_, (by (with_reducible repeat (first | apply Kd.S_alloc | apply Kd.S_drewN | apply Kd.S_drew)); exact HV3.out)⟩); rintro e w' ⟨rfl, ⟨nd, rfl⟩⟩; refine ⟨_, rfl, ?_⟩))
 go_upto_region 23 with (first | ((with_reducible refine gate_callee (f := 7) rfl ?_); refine goesL_ (some 72) rfl rfl Try.func7 (by kernel_rfl) rfl #[.slice A0 l0.length c0] rfl (by (try simp only [List.map_toArray, List.map_cons, List.map_nil]); first | done | rfl | (simp only [List.length_drop, List.length_take]; rfl)) ?_; (with_reducible refine (laws_toIntS.calls kt0 _ _ l0 l0 _ ?side1 ?side2 AT0.out).mono ?_); (case side1 => exact (Kd.C_below HR0.out (by repeat (first | (with_reducible first | exact HB.out | apply below_alloc | apply pw_below_drewN | apply below_drew1) | exact HB.out)))); (case side2 => exact HC0.out); rintro e w8 ⟨vv0, rfl, ho0, hb⟩; refine ⟨_, rfl, ?_⟩; obtain ⟨n6, hn_⟩ : ∃ n, n = w8.heap.size := ⟨_, rfl⟩; have HLn6 := Aside0.mk (show n5 ≤ n6 from Nat.le_trans HN.out (Nat.le_trans hb.size (Nat.le_of_eq hn_.symm))); have HV5 := Aside0.mk (Kd.R_mono (ok' := fun k => n5 ≤ k ∧ k < n6) (Kd.R_lower (Kd.R_bound ho0) (below_size (by repeat (first | (with_reducible first | exact HB.out | apply below_alloc | apply pw_below_drewN | apply below_drew1) | exact HB.out)))) (fun k hk => ⟨Nat.le_trans HN.out hk.2.1, by have := hk.2.2.1; omega⟩)); have HV02 := Aside0.mk (Kd.R_below (by (with_reducible repeat (first | apply Kd.R_alloc | apply Kd.R_drewN | apply Kd.R_drew)); exact HV0.out) hb); have HV12 := Aside0.mk (Kd.V_below (by (with_reducible repeat (first | apply Kd.V_alloc | apply Kd.V_drewN | apply Kd.V_drew)); exact HV1.out) hb); have HV32 := Aside0.mk (Kd.S_below (by (with_reducible repeat (first | apply Kd.S_alloc | apply Kd.S_drewN | apply Kd.S_drew)); exact HV3.out) hb); have HV42 := Aside0.mk (Kd.R_below (by (with_reducible repeat (first | apply Kd.R_alloc | apply Kd.R_drewN | apply Kd.R_drew)); exact HV4.out) hb); have HB2 := Aside0.mk (below_step (by repeat (first | (with_reducible first | exact HB.out | apply below_alloc | apply pw_below_drewN | apply below_drew1) | exact HB.out)) hb); have HN2_ := Aside0.mk (Nat.le_of_eq hn_); clear HB HN hb hn_ ho0 HV0 HV1 HV3 HV4; have HB := HB2; have HN := HN2_; have HV0 := HV02; have HV1 := HV12; have HV3 := HV32; have HV4 := HV42; clear HB2 HN2_ HV02 HV12 HV32 HV42; obtain ⟨B5, cc5, es_⟩ := Kd.R_slice HV5.out; subst es_) | ((with_reducible refine gate_callee (f := 8) rfl ?_); refine goesL_ (some 73) rfl rfl Try.func8 (by kernel_rfl) rfl #[.slice B5 l0.length cc5] rfl (by (try simp only [List.map_toArray, List.map_cons, List.map_nil]); first | done | rfl | (simp only [List.length_drop, List.length_take]; rfl)) ?_; (with_reducible refine (impl_LowerCovers.calls kI _ _ l0 L0 b _ ?side1 ?side2 AI.out).mono ?_); (case side1 => exact (Kd.R_reads' (by (with_reducible repeat (first | apply Kd.R_alloc | apply Kd.R_drewN | apply Kd.R_drew)); exact HV5.out)).2.2); (case side2 => exact (Kd.R_reads' HV5.out).2.1); rintro e w9 ⟨vv0, rfl, ho0, hb⟩; refine ⟨_, rfl, ?_⟩; obtain ⟨n7, hn_⟩ : ∃ n, n = w9.heap.size := ⟨_, rfl⟩; have HLn7 := Aside0.mk (show n6 ≤ n7 from Nat.le_trans HN.out (Nat.le_trans hb.size (Nat.le_of_eq hn_.symm))); have HV6 := Aside0.mk (Kd.S_mono (ok' := fun k => n6 ≤ k ∧ k < n7) (Kd.S_lower (Kd.S_bound ho0) (below_size (by repeat (first | (with_reducible first | exact HB.out | apply below_alloc | apply pw_below_drewN | apply below_drew1) | exact HB.out)))) (fun k hk => ⟨Nat.le_trans HN.out hk.2.1, by have := hk.2.2.1; omega⟩)); have HV02 := Aside0.mk (Kd.R_below (by (with_reducible repeat (first | apply Kd.R_alloc | apply Kd.R_drewN | apply Kd.R_drew)); exact HV0.out) hb); have HV12 := Aside0.mk (Kd.V_below (by (with_reducible repeat (first | apply Kd.V_alloc | apply Kd.V_drewN | apply Kd.V_drew)); exact HV1.out) hb); have HV32 := Aside0.mk (Kd.S_below (by (with_reducible repeat (first | apply Kd.S_alloc | apply Kd.S_drewN | apply Kd.S_drew)); exact HV3.out) hb); have HV42 := Aside0.mk (Kd.R_below (by (with_reducible repeat (first | apply Kd.R_alloc | apply Kd.R_drewN | apply Kd.R_drew)); exact HV4.out) hb); have HV52 := Aside0.mk (Kd.R_below (by (with_reducible repeat (first | apply Kd.R_alloc | apply Kd.R_drewN | apply Kd.R_drew)); exact HV5.out) hb); have HB2 := Aside0.mk (below_step (by repeat (first | (with_reducible first | exact HB.out | apply below_alloc | apply pw_below_drewN | apply below_drew1) | exact HB.out)) hb); have HN2_ := Aside0.mk (Nat.le_of_eq hn_); clear HB HN hb hn_ ho0 HV0 HV1 HV3 HV4 HV5; have HB := HB2; have HN := HN2_; have HV0 := HV02; have HV1 := HV12; have HV3 := HV32; have HV4 := HV42; have HV5 := HV52; clear HB2 HN2_ HV02 HV12 HV32 HV42 HV52; obtain ⟨B6, cc6, es_⟩ := Kd.S_slice HV6.out; subst es_))
 go_upto_region 26 with (first | ((with_reducible refine gate_callee (f := 9) rfl ?_); refine goesL_ (some 78) rfl rfl Try.func9 (by kernel_rfl) rfl #[.slice B6 L0.length cc6, .slice B1 L0.length cc1] rfl (by (try simp only [List.map_toArray, List.map_cons, List.map_nil]); first | done | rfl | (simp only [List.length_drop, List.length_take]; rfl)) ?_; (with_reducible refine (laws_eqIntSS.calls kAE0 _ _ L0 _ _ L0 true _ ?side1 ?side2 ?side3 ?side4 AE0.out).mono ?_); (case side1 => exact (Kd.S_reads' (by (with_reducible repeat (first | apply Kd.S_alloc | apply Kd.S_drewN | apply Kd.S_drew)); exact HV6.out)).2.2); (case side2 => exact (Kd.S_reads' HV6.out).2.1); (case side3 => exact (Kd.V_reads' (by (with_reducible repeat (first | apply Kd.V_alloc | apply Kd.V_drewN | apply Kd.V_drew)); exact HV1.out)).2.2); (case side4 => exact (Kd.V_reads' HV1.out).2.1); rintro e w' ⟨rfl, ⟨nd, rfl⟩⟩; refine ⟨_, rfl, ?_⟩))
 go_wp2_with (first | ((with_reducible refine gate_callee (f := 13) rfl ?_); refine goesL_ (some 87) rfl rfl Try.func13 (by kernel_rfl) rfl #[.slice B3 L0.length cc3, .int .i64 1] rfl (by (try simp only [List.map_toArray, List.map_cons, List.map_nil]); first | done | rfl | (simp only [List.length_drop, List.length_take]; rfl)) ?_; (with_reducible refine (AH1.out B3 cc3 _ ?side1).mono ?_); (case side1 => exact ⟨_, (by (with_reducible repeat (first | apply Kd.S_alloc | apply Kd.S_drewN | apply Kd.S_drew)); exact HV3.out)⟩); rintro e w' ⟨rfl, ⟨nd, rfl⟩⟩; refine ⟨_, rfl, ?_⟩))
 go_ret
 exact ⟨rfl, (by repeat (first | (with_reducible first | exact HB.out | apply below_alloc | apply pw_below_drewN | apply below_drew1) | exact HB.out))⟩
end Go.Proofs.Ytdkimdlbjeobiaa.A

/- What came in as a slice, opened and read in the words of rows. -/
namespace Go.Proofs.Ytdkimdlbjeobiaa.A
open Go.RowKit Go.Proofs.YtdkimdlbjeobiaaW.PrintWords Go.Proofs.YtdkimdlbjeobiaaW.PrintLast Go.Proofs.YtdkimdlbjeobiaaW.PrintMore
attribute [local go_sem] max2_int min2_int max_two min_two max_three min_three max_four min_four
set_option linter.unusedVariables false
set_option linter.unusedSimpArgs false

open Go.ChangeShapes Go.WideShapes Go.ChangeAt Go.Deep
theorem row_ints {H : Type} {enc : TypeId × Value → H} {P : Program} {W : World} {base : Nat} {held : Bool} {t e : TypeId} {a : Option Addr} {len cap : Nat} {d : DataW H} {ps : List MemPlace}
 (ht : P.underlying t = some (.slice e)) (he : P.underlying e = some (.int .i64)) (hC : P.cellsOf e = 1) (h : DataW.Trod enc P W base (fun _ => true) held t (.slice a len cap) d ps) :
 ∃ l : List Int, len = l.length ∧ Kd.C (Kd.int .i64) W a l.length l ∧ l.length ≤ maxLen ∧ (∀ x ∈ l, (Lit.int .i64 x).wf = true) ∧ l.length ≤ cap := by
 have w0 : (a = none ∧ len = 0 ∧ cap = 0 ∧ ∃ z : List Int, z = []) ∨ ∃ z : List Int, ∃ x, a = some x ∧ len ≤ cap ∧ cap ≤ maxLen ∧ z.length = cap ∧ (∀ i, i < z.length → W.cell? (x.add i) = some (.int .i64 (z.getD i 0))) ∧ ∀ n ∈ z, (Lit.int .i64 n).wf = true := by
  obtain ⟨fuel, hf⟩ := h
  rcases open_ints ht he hC hf with ⟨hcs, _⟩ | ⟨x, l, c, zs, hcs, _, hl, hm, hz, _, hcell, hwz⟩
  · simp [Value.cells] at hcs
    obtain ⟨rfl, rfl, rfl⟩ := hcs
    exact .inl ⟨rfl, rfl, rfl, [], rfl⟩
  · simp [Value.cells] at hcs
    obtain ⟨rfl, rfl, rfl⟩ := hcs
    exact .inr ⟨zs, _, rfl, hl, hm, by simpa using hz, hcell, hwz⟩
 rcases w0 with ⟨rfl, rfl, rfl, _⟩ | ⟨z, x, rfl, hl, hm, hz, hcell, hw⟩
 · obtain ⟨l, hlen, hr, hm, hw, hc⟩ := ReadsInt.ofRowC (k := .i64) (w := W) (a := none) (len := 0) (cap := 0) (zs := []) (.inl ⟨rfl, rfl, rfl, rfl⟩)
   exact ⟨l, hlen, Kd.C_of_reads (d := (0 : Int)) (h1 := fun _ => rfl) hr, hm, hw, hc⟩
 · obtain ⟨l, hlen, hr, hm, hw, hc⟩ := ReadsInt.ofRowC (k := .i64) (w := W) (a := some x) (len := len) (cap := cap) (zs := z) (.inr ⟨x, rfl, hl, hm, hz, hcell, hw⟩)
   exact ⟨l, hlen, Kd.C_of_reads (d := (0 : Int)) (h1 := fun _ => rfl) hr, hm, hw, hc⟩
end Go.Proofs.Ytdkimdlbjeobiaa.A
