/- What the law FnPlacingsOrRows reaches, part 2: Lean functions with the same answers as the Go functions, the proofs that the Go code comes to these answers, and lemmas about them; no condition beyond those that each theorem names. -/
import Derived.Test.YtgcgecbdmomceaaDoorCFnPlacingsOrRowsw1
import Derived.Shelf.SlicesE.IndexFunc
import Derived.Shelf.SlGeneric
import Derived.Shelf.SlLaysH
import Derived.Ground.SlgfProg
import Derived.Test.YtgcgecbdmomceaaDoorProg
import Derived.Lib.SliceRun
import Derived.Deep.RegionLaw
import Derived.Laws.EntriesVeiled
import Derived.Laws.Cover3
import Derived.Shelf.Spec.TrailingZeros
import Derived.Test.YtgcgecbdmomceaaDoorCFnPlacingsOrRows1
-- made by a program of this repo (wip/pp.py) through the kit's printer
namespace Go.Proofs.YtgcgecbdmomceaaDoor.A
open Go.RowKit Go.Proofs.YtgcgecbdmomceaaDoorW.PrintWords Go.Proofs.YtgcgecbdmomceaaDoorW.PrintLast Go.Proofs.YtgcgecbdmomceaaDoorW.PrintMore
attribute [local go_sem] max2_int min2_int max_two min_two max_three min_three max_four min_four
set_option linter.unusedVariables false
set_option linter.unusedSimpArgs false

/-! ### spec_doPlacings: function 38 -/
mutual
def spec_doPlacings.l0 : Nat → List (List Int) → List Int → Int → List (List Int) → List Int → Int → Int → Option ((List (List Int)))
 | 0, _, _, _, _, _, _, _ => none
 | k + 1, x0, x1, x2, x7, x22, x23, x24 => if x24 < x23 then (if 0 ≤ x24 then (if x24 < (x22.length : Int) then (if (rd x22 x24) > 0 then ((spec_l1Has.f k x1 x24).bind fun t291 => (if t291 = true then (spec_doPlacings.j1 k x0 x1 x2 x7 x24 x22 x23 x24 false) else (spec_doPlacings.j1 k x0 x1 x2 x7 x24 x22 x23 x24 (decide ((x7.length : Int) < x2))))) else (spec_doPlacings.j1 k x0 x1 x2 x7 x24 x22 x23 x24 false)) else (none)) else (none)) else (some x7)
def spec_doPlacings.j1 : Nat → List (List Int) → List Int → Int → List (List Int) → Int → List Int → Int → Int → Bool → Option ((List (List Int)))
 | 0, _, _, _, _, _, _, _, _, _ => none
 | k + 1, x0, x1, x2, x7, x8, x22, x23, x24, x42 => if x42 = true then ((spec_l1Own.f x1).bind fun t292 => (if t292.length < 17592186044416 then ((spec_doPlacings.f k x0 (t292 ++ [x8]) (wrap64 (x2 - (x7.length : Int)))).bind fun t298 => (if x7.length + t298.length < 5864062014805 then (spec_doPlacings.l0 k x0 x1 x2 (x7 ++ t298) x22 x23 (wrap64 (x24 + 1))) else (none))) else (none))) else (spec_doPlacings.l0 k x0 x1 x2 x7 x22 x23 (wrap64 (x24 + 1)))
def spec_doPlacings.f : Nat → List (List Int) → List Int → Int → Option ((List (List Int)))
 | 0, _, _, _ => none
 | k + 1, l0, l1, a2 => if (l1.length : Int) = (l0.length : Int) then ((spec_l1Own.f l1).bind fun t283 => (some (([t283] : List (List Int))))) else (if 0 ≤ (l1.length : Int) then (if (l1.length : Int) < (l0.length : Int) then (spec_doPlacings.l0 k l0 l1 a2 ([] : List (List Int)) (rd_L1 l0 (l1.length : Int)) ((rd_L1 l0 (l1.length : Int)).length : Int) 0) else (none)) else (none))
end
set_option maxHeartbeats 8000000 in
set_option maxRecDepth 100000 in
theorem spec_doPlacings.calls (k : Nat) : ∀ (A0 : Option Addr) (c0 : Nat) (l0 : List (List Int)) (A1 : Option Addr) (c1 : Nat) (l1 : List Int) (a2 : Int) (r : List (List Int)) (w : World) (hr0 : Kd.C (Kd.slice 3 (Kd.int .i64)) w A0 l0.length l0) (hc0 : l0.length ≤ c0) (hr1 : Kd.C (Kd.int .i64) w A1 l1.length l1) (hc1 : l1.length ≤ c1) (h : spec_doPlacings.f k l0 l1 a2 = some r),
 Calls Tryd.prog 38 #[.slice A0 l0.length c0, .slice A1 l1.length c1, .int .i64 a2] w fun e w' => ∃ v0_ : Value, e = .returned (v0_) ∧ Kd.N (Kd.slice 3 (Kd.int .i64)) 24 w' w.heap.size (fun k_ => (w.heap.size ≤ k_)) v0_ r ∧ Below w.heap.size w w' := by
 induction k using Nat.strongRecOn with
 | _ k ih =>
 intro A0 c0 l0 A1 c1 l1 a2 r w hr0 hc0 hr1 hc1 h
 cases k with
 | zero => exact absurd h (by simp [spec_doPlacings.f])
 | succ k =>
 simp only [spec_doPlacings.f] at h
 have HR0 := Aside0.mk hr0
 have HC0 := Aside0.mk hc0
 clear hr0 hc0
 have HR1 := Aside0.mk hr1
 have HC1 := Aside0.mk hc1
 clear hr1 hc1
 have HB := Aside0.mk (Below.refl w.heap.size w)
 have H : (if (l1.length : Int) = (l0.length : Int) then ((spec_l1Own.f l1).bind fun t283 => (some (([t283] : List (List Int))))) else (if 0 ≤ (l1.length : Int) then (if (l1.length : Int) < (l0.length : Int) then (spec_doPlacings.l0 k l0 l1 a2 ([] : List (List Int)) (rd_L1 l0 (l1.length : Int)) ((rd_L1 l0 (l1.length : Int)).length : Int) 0) else (none)) else (none))) = some r := h
 clear h
 by_cases c4 : (l1.length : Int) = (l0.length : Int)
 · rw [if_pos c4] at H
   have c4b0 : ((l1.length : Int) == (l0.length : Int)) = true := beq_iff_eq.mpr c4
   have c4b1 : ((l1.length : Int) != (l0.length : Int)) = false := bne_eq_false_iff_eq.mpr c4
   have c4b2 : (l1.length == l0.length) = true := by first | simpa using c4 | (simp at c4 ⊢; omega)
   clear c4
   replace H := Option.bind_eq_some_iff.mp H
   obtain ⟨t283, A50, H⟩ := H
   replace H : (some (([t283] : List (List Int)))) = some r := H
   have A5 := Aside0.mk A50
   clear A50
   obtain ⟨y286, hy286⟩ : ∃ y_ : List (List Int), y_ = (([t283] : List (List Int))) := ⟨_, rfl⟩
   replace H : (some y286) = some r := by first | (rw [hy286]; with_reducible exact H) | (have H2_ := (Option.bind_some _ _).symm.trans H; rw [hy286]; with_reducible exact H2_) | (have H2_ := (Option.bind_some _ _).symm.trans H; with_reducible exact H2_) | with_reducible exact H | (rw [hy286]; exact H) | exact H
   have Ny286 := Aside0.mk hy286
   clear hy286
   obtain rfl := Option.some.inj H
   go_enter Tryd.func38, Tryd.ntmps38
   go_wp2_with (first | ((with_reducible refine gate_callee (f := 55) rfl ?_); refine goesL_ (some 16) rfl rfl Tryd.func55 (by kernel_rfl) rfl #[.slice A1 l1.length c1] rfl (by (try simp only [List.map_toArray, List.map_cons, List.map_nil]); first | done | rfl | (simp only [List.length_drop, List.length_take]; rfl)) ?_; (with_reducible refine (spec_l1Own.calls _ _ l1 t283 _ ?side1 ?side2 A5.out).mono ?_); (case side1 => repeat (first | exact HR1.out | (with_reducible refine Kd.C_alloc ?_ _) | (with_reducible refine Kd.C_drewN ?_ _) | (with_reducible refine Kd.C_drew ?_))); (case side2 => exact HC1.out); rintro e w6 ⟨v284, rfl, ho0, hb⟩; refine ⟨_, rfl, ?_⟩; have n0_ := Aside0.mk (Kd.R_lower (Kd.R_newM (M := fun k_ => (w.heap.size ≤ k_)) ho0 (below_size (by repeat (first | (with_reducible first | exact HB.out | apply below_alloc | apply pw_below_drewN | apply below_drew1) | exact HB.out))) (fun k_ h_ => h_)) (below_size (by repeat (first | (with_reducible first | exact HB.out | apply below_alloc | apply pw_below_drewN | apply below_drew1) | exact HB.out)))); have n1_ := Aside0.mk (below_step (by repeat (first | (with_reducible first | exact HB.out | apply below_alloc | apply pw_below_drewN | apply below_drew1) | exact HB.out)) hb); clear HB; have HO285 := n0_; have HB := n1_; clear n0_ n1_; (try clear hb); (try clear hb2); (try clear hk); (try clear hi); (try clear ho0); obtain ⟨Ao7, co7, eo7⟩ := Kd.R_slice HO285.out; subst eo7) | ((with_reducible refine gate_dst (N := 17) rfl ?_); (try (refine gate_guard (by rfl) ?_; dsimp only)); refine Kd.N_lit (Kd.slice 3 (Kd.int .i64)) _ 24 ?hg (N' := 17) ?hd (xs := ([t283] : List (List Int))) (inner := [.slice Ao7 t283.length co7]) (ok := (fun k_ => (w.heap.size ≤ k_))) (okp := (fun k_ => (w.heap.size ≤ k_))) ?hr ?hp (fun _ hk => hk) ((show ∀ k_, w6.heap.size ≤ k_ → (fun k_ => (w.heap.size ≤ k_)) k_ from fun k_ hk => (Nat.le_trans (below_size (by repeat (first | (with_reducible first | exact HB.out | apply below_alloc | apply pw_below_drewN | apply below_drew1) | exact HB.out))) hk)) _ (Nat.le_refl _)) (Below.refl _ _) (Nat.le_refl _) (by simp) ?_; (case hd => rfl); (case hg => rfl); (case hr => first | (go_simp; done) | (go_simp; rfl)); (case hp => exact (Reps.one (show Kd.FK (Kd.slice 3 (Kd.int .i64)) _ _ t283 [.slice Ao7 t283.length co7] from (Kd.FK_slice_mk (Kd.R_reads' (Kd.R_mono (ok' := (fun k_ => (w.heap.size ≤ k_))) (HO285.out) (fun k_ hk => hk.1))).2.1 (Kd.R_F (Kd.R_mono (ok' := (fun k_ => (w.heap.size ≤ k_))) (HO285.out) (fun k_ hk => hk.1))))) (Reps.none _ _))); intro v287 w8 ho9 hb hg_ hnew_; clear hg_ hnew_; (first | rw [← Ny286.out] at ho9 | (simp only [Int.reduceToNat] at ho9; rw [← Ny286.out] at ho9)); have n0_ := Aside0.mk (Kd.N_lower ho9 (below_size (by repeat (first | (with_reducible first | exact HB.out | apply below_alloc | apply pw_below_drewN | apply below_drew1) | exact HB.out)))); have n1_ := Aside0.mk (below_step (by repeat (first | (with_reducible first | exact HB.out | apply below_alloc | apply pw_below_drewN | apply below_drew1) | exact HB.out)) hb); clear HB; clear HO285; have HO288 := n0_; have HB := n1_; clear n0_ n1_; clear hb ho9))
   go_ret
   exact ⟨_, by first | rfl | (simp [errW_none, errW_some] <;> rfl) | (simp [*, errW_none, errW_some] <;> rfl), by (with_reducible repeat (first | apply Kd.N_alloc | apply Kd.N_drewN | apply Kd.N_drew)); exact HO288.out, by repeat (first | (with_reducible first | exact HB.out | apply below_alloc | apply pw_below_drewN | apply below_drew1) | exact HB.out)⟩
 · rw [if_neg c4] at H
   have c4b0 : ((l1.length : Int) == (l0.length : Int)) = false := beq_eq_false_iff_ne.mpr c4
   have c4b1 : ((l1.length : Int) != (l0.length : Int)) = true := bne_iff_ne.mpr c4
   have c4b2 : (l1.length == l0.length) = false := by first | simpa using c4 | (simp at c4 ⊢; omega)
   by_cases c10 : 0 ≤ (l1.length : Int)
   · rw [if_pos c10] at H
     have c10b0 : decide (0 ≤ (l1.length : Int)) = true := decide_eq_true c10
     have c10b1 : decide (0 ≤ l1.length) = true := decide_eq_true (by omega)
     clear c10
     by_cases c11 : (l1.length : Int) < (l0.length : Int)
     · rw [if_pos c11] at H
       have c11b0 : decide ((l1.length : Int) < (l0.length : Int)) = true := decide_eq_true c11
       have c11b1 : decide (l1.length < l0.length) = true := decide_eq_true (Int.ofNat_lt.mp c11)
       clear c11
       have H' := Aside0.mk H
       clear H
       have p289 : 0 ≤ ((l1.length : Int) : Int) := of_decide_eq_true (by first | (with_reducible assumption) | assumption)
       have q289 : (l1.length : Int) < (l0.length : Int) := of_decide_eq_true (by first | (with_reducible assumption) | assumption)
       obtain ⟨ad289, A289_0, c289_0, e289, hx289_0, hl289_0, hi289_0⟩ := at_L1 HR0.out (l1.length : Int) p289 q289
       cases e289
       have HR289_0 := Aside0.mk hi289_0
       have HC289_0 := Aside0.mk hl289_0
       clear hi289_0 hl289_0
       (try simp only [Go.IntWalk.toNatUp] at hx289_0)
       replace p289 := eq_true p289
       replace q289 := eq_true q289
       go_enter Tryd.func38, Tryd.ntmps38
       go_wp2
       go_loopg [7, 24] k (fun kq v7 v24 w' => ∃ (x7_1 : List (List Int)) (x24_1 : Int), v24 = .int .i64 x24_1 ∧ Aside0 (spec_doPlacings.l0 kq l0 l1 a2 x7_1 (rd_L1 l0 (l1.length : Int)) ((rd_L1 l0 (l1.length : Int)).length : Int) x24_1 = some r) ∧ Aside0 (kq ≤ k) ∧ Aside0 (Kd.N (Kd.slice 3 (Kd.int .i64)) 24 w' w.heap.size (fun k_ => (w.heap.size ≤ k_)) v7 x7_1) ∧ Aside0 (Below w.heap.size w w'))
       case atStart => exact ⟨(([] : List (List Int))), (0), (by first | rfl | (simp; done) | (simp [*]; done)), H', ⟨Nat.le_refl _⟩, ⟨by first | exact Kd.S_nil _ _ _ _ _ | exact Kd.N_nil _ _ _ _ _ | exact Kd.V_nil _ _ _ _ _ | exact Kd.Q_nil _ _ _ _ _ | exact Kd.R_nil _ _ _ _ _⟩, ⟨by repeat (first | (with_reducible first | exact HB.out | apply below_alloc | apply pw_below_drewN | apply below_drew1) | exact HB.out)⟩⟩
       case round =>
        clear H'
        try clear c1
        try clear c2
        try clear p2
        try clear q2
        try clear hx2
        try clear c3
        try clear c4
        try clear c4b0
        try clear c4b1
        try clear c4b2
        try clear c5
        try clear c10
        try clear c10b0
        try clear c10b1
        try clear c11
        try clear c11b0
        try clear c11b1
        try clear hx289_0
        try clear p289
        try clear q289
        obtain ⟨x7_1, x24_1, rfl, HA, HK1, HO_7, HB⟩ := hrel
        cases gk with
        | zero => exact absurd HA.out (by simp [spec_doPlacings.l0])
        | succ k1 =>
         have H := HA.out
         clear HA
         simp only [spec_doPlacings.l0] at H
         by_cases c12 : x24_1 < ((rd_L1 l0 (l1.length : Int)).length : Int)
         · rw [if_pos c12] at H
           have c12b0 : decide (x24_1 < ((rd_L1 l0 (l1.length : Int)).length : Int)) = true := decide_eq_true c12
           clear c12
           by_cases c13 : 0 ≤ x24_1
           · rw [if_pos c13] at H
             have c13b0 : decide (0 ≤ x24_1) = true := decide_eq_true c13
             clear c13
             by_cases c14 : x24_1 < ((rd_L1 l0 (l1.length : Int)).length : Int)
             · rw [if_pos c14] at H
               have c14b0 : decide (x24_1 < ((rd_L1 l0 (l1.length : Int)).length : Int)) = true := decide_eq_true c14
               clear c14
               have HC15 := Aside0.mk H
               clear H
               have p290 : 0 ≤ (x24_1 : Int) := of_decide_eq_true (by first | (with_reducible assumption) | assumption)
               have q290 : x24_1 < ((rd_L1 l0 (l1.length : Int)).length : Int) := of_decide_eq_true (by first | (with_reducible assumption) | assumption)
               obtain ⟨ad290, e290, hx290_0⟩ := Kd.at_int HR289_0.out x24_1 p290 q290
               cases e290
               replace hx290_0 := (HB.out.cell (World.block_lt_of_cell? w _ hx290_0)).trans hx290_0
               replace p290 := eq_true p290
               replace q290 := eq_true q290
               go_upto_region 7 with (fail)
               go_cut [42] (fun v42 wc => ∃ (kq : Nat) (x42_14 : Bool), v42 = .bool x42_14 ∧ Aside0 (spec_doPlacings.j1 kq l0 l1 a2 x7_1 x24_1 (rd_L1 l0 (l1.length : Int)) ((rd_L1 l0 (l1.length : Int)).length : Int) x24_1 x42_14 = some r) ∧ Aside0 (kq ≤ k1) ∧ Aside0 (Kd.N (Kd.slice 3 (Kd.int .i64)) 24 wc w.heap.size (fun k_ => (w.heap.size ≤ k_)) u7 x7_1) ∧ Aside0 (Below w.heap.size w wc))
               case first =>
                have H := HC15.out
                clear HC15
                by_cases c16 : (rd (rd_L1 l0 (l1.length : Int)) x24_1) > 0
                · rw [if_pos c16] at H
                  have c16b0 : decide (0 < (rd (rd_L1 l0 (l1.length : Int)) x24_1)) = true := decide_eq_true c16
                  clear c16
                  (first | rw [c16b0] | (simp only [i64_w, i32_w]; rw [c16b0]) | skip)
                  replace H := Option.bind_eq_some_iff.mp H
                  obtain ⟨t291, A170, H⟩ := H
                  replace H : (if t291 = true then (spec_doPlacings.j1 k1 l0 l1 a2 x7_1 x24_1 (rd_L1 l0 (l1.length : Int)) ((rd_L1 l0 (l1.length : Int)).length : Int) x24_1 false) else (spec_doPlacings.j1 k1 l0 l1 a2 x7_1 x24_1 (rd_L1 l0 (l1.length : Int)) ((rd_L1 l0 (l1.length : Int)).length : Int) x24_1 (decide ((x7_1.length : Int) < a2)))) = some r := H
                  have A17 := Aside0.mk A170
                  clear A170
                  by_cases c18 : t291 = true
                  · subst c18
                    have H1 : (spec_doPlacings.j1 k1 l0 l1 a2 x7_1 x24_1 (rd_L1 l0 (l1.length : Int)) ((rd_L1 l0 (l1.length : Int)).length : Int) x24_1 false) = some r := by rw [if_pos rfl] at H; exact H
                    clear H
                    have H := H1
                    clear H1
                    have H' := Aside0.mk H
                    clear H
                    go_wp2_with (first | (go_at_call 61; (with_reducible refine (spec_l1Has.calls k1 _ _ l1 x24_1 true _ ?side1 ?side2 A17.out).mono ?_); (case side1 => repeat (first | exact (Kd.C_below HR1.out HB.out) | (with_reducible refine Kd.C_alloc ?_ _) | (with_reducible refine Kd.C_drewN ?_ _) | (with_reducible refine Kd.C_drew ?_))); (case side2 => exact HC1.out); rintro e w' ⟨rfl, ⟨nd, rfl⟩⟩))
                    go_meet
                    case rel => exact ⟨_, (false), (by first | rfl | (simp; done) | (simp [*]; done)), H', ⟨by have := HK1.out; first | omega | exact Nat.le_refl _⟩, ⟨by (with_reducible repeat (first | apply Kd.N_alloc | apply Kd.N_drewN | apply Kd.N_drew)); exact HO_7.out⟩, ⟨by repeat (first | (with_reducible first | exact HB.out | apply below_alloc | apply pw_below_drewN | apply below_drew1) | exact HB.out)⟩⟩
                  · replace c18 := Bool.eq_false_iff.mpr c18
                    subst c18
                    have H1 : (spec_doPlacings.j1 k1 l0 l1 a2 x7_1 x24_1 (rd_L1 l0 (l1.length : Int)) ((rd_L1 l0 (l1.length : Int)).length : Int) x24_1 (decide ((x7_1.length : Int) < a2))) = some r := by rw [if_neg (show ¬ (false = true) by decide)] at H; exact H
                    clear H
                    have H := H1
                    clear H1
                    have H' := Aside0.mk H
                    clear H
                    go_wp2_with (first | (go_at_call 61; (with_reducible refine (spec_l1Has.calls k1 _ _ l1 x24_1 false _ ?side1 ?side2 A17.out).mono ?_); (case side1 => repeat (first | exact (Kd.C_below HR1.out HB.out) | (with_reducible refine Kd.C_alloc ?_ _) | (with_reducible refine Kd.C_drewN ?_ _) | (with_reducible refine Kd.C_drew ?_))); (case side2 => exact HC1.out); rintro e w' ⟨rfl, ⟨nd, rfl⟩⟩; obtain ⟨Ao19, co19, eo19⟩ := Kd.N_slice HO_7.out; subst eo19))
                    go_meet
                    case rel => exact ⟨_, (decide ((x7_1.length : Int) < a2)), (by first | rfl | (simp; done) | (simp [*]; done)), H', ⟨by have := HK1.out; first | omega | exact Nat.le_refl _⟩, ⟨by (with_reducible repeat (first | apply Kd.N_alloc | apply Kd.N_drewN | apply Kd.N_drew)); exact HO_7.out⟩, ⟨by repeat (first | (with_reducible first | exact HB.out | apply below_alloc | apply pw_below_drewN | apply below_drew1) | exact HB.out)⟩⟩
                · rw [if_neg c16] at H
                  have c16b0 : decide (0 < (rd (rd_L1 l0 (l1.length : Int)) x24_1)) = false := decide_eq_false c16
                  clear c16
                  (first | rw [c16b0] | (simp only [i64_w, i32_w]; rw [c16b0]) | skip)
                  have H' := Aside0.mk H
                  clear H
                  go_wp2
                  go_meet
                  case rel => exact ⟨_, (false), (by first | rfl | (simp; done) | (simp [*]; done)), H', ⟨by have := HK1.out; first | omega | exact Nat.le_refl _⟩, ⟨by (with_reducible repeat (first | apply Kd.N_alloc | apply Kd.N_drewN | apply Kd.N_drew)); exact HO_7.out⟩, ⟨by repeat (first | (with_reducible first | exact HB.out | apply below_alloc | apply pw_below_drewN | apply below_drew1) | exact HB.out)⟩⟩
               case rest =>
                clear HC15
                try clear c1
                try clear c2
                try clear p2
                try clear q2
                try clear hx2
                try clear c3
                try clear c4
                try clear c4b0
                try clear c4b1
                try clear c4b2
                try clear c5
                try clear c10
                try clear c10b0
                try clear c10b1
                try clear c11
                try clear c11b0
                try clear c11b1
                try clear c12
                try clear c12b0
                try clear c13
                try clear c13b0
                try clear c14
                try clear c14b0
                try clear c16
                try clear c16b0
                try clear c18
                try clear hx289_0
                try clear hx290_0
                try clear p2
                try clear p289
                try clear p290
                try clear q2
                try clear q289
                try clear q290
                obtain ⟨kq, x42_14, rfl, HA, HJ14, HO_7, HB⟩ := hcut
                cases kq with
                | zero => exact absurd HA.out (by simp [spec_doPlacings.j1])
                | succ kj14 =>
                 have H := HA.out
                 clear HA
                 simp only [spec_doPlacings.j1] at H
                 by_cases c20 : x42_14 = true
                 · subst c20
                   have H1 : ((spec_l1Own.f l1).bind fun t292 => (if t292.length < 17592186044416 then ((spec_doPlacings.f kj14 l0 (t292 ++ [x24_1]) (wrap64 (a2 - (x7_1.length : Int)))).bind fun t298 => (if x7_1.length + t298.length < 5864062014805 then (spec_doPlacings.l0 kj14 l0 l1 a2 (x7_1 ++ t298) (rd_L1 l0 (l1.length : Int)) ((rd_L1 l0 (l1.length : Int)).length : Int) (wrap64 (x24_1 + 1))) else (none))) else (none))) = some r := by rw [if_pos rfl] at H; exact H
                   clear H
                   have H := H1
                   clear H1
                   replace H := Option.bind_eq_some_iff.mp H
                   obtain ⟨t292, A210, H⟩ := H
                   replace H : (if t292.length < 17592186044416 then ((spec_doPlacings.f kj14 l0 (t292 ++ [x24_1]) (wrap64 (a2 - (x7_1.length : Int)))).bind fun t298 => (if x7_1.length + t298.length < 5864062014805 then (spec_doPlacings.l0 kj14 l0 l1 a2 (x7_1 ++ t298) (rd_L1 l0 (l1.length : Int)) ((rd_L1 l0 (l1.length : Int)).length : Int) (wrap64 (x24_1 + 1))) else (none))) else (none)) = some r := H
                   have A21 := Aside0.mk A210
                   clear A210
                   by_cases c22 : t292.length < 17592186044416
                   · rw [if_pos c22] at H
                     have LMc22 := Aside0.mk c22
                     clear c22
                     obtain ⟨y295, hy295⟩ : ∃ y_ : List Int, y_ = (t292 ++ [x24_1]) := ⟨_, rfl⟩
                     replace H : ((spec_doPlacings.f kj14 l0 y295 (wrap64 (a2 - (x7_1.length : Int)))).bind fun t298 => (if x7_1.length + t298.length < 5864062014805 then (spec_doPlacings.l0 kj14 l0 l1 a2 (x7_1 ++ t298) (rd_L1 l0 (l1.length : Int)) ((rd_L1 l0 (l1.length : Int)).length : Int) (wrap64 (x24_1 + 1))) else (none))) = some r := by first | (rw [hy295]; with_reducible exact H) | (have H2_ := (Option.bind_some _ _).symm.trans H; rw [hy295]; with_reducible exact H2_) | (have H2_ := (Option.bind_some _ _).symm.trans H; with_reducible exact H2_) | with_reducible exact H | (rw [hy295]; exact H) | exact H
                     have Ny295 := Aside0.mk hy295
                     clear hy295
                     replace H := Option.bind_eq_some_iff.mp H
                     obtain ⟨t298, A230, H⟩ := H
                     replace H : (if x7_1.length + t298.length < 5864062014805 then (spec_doPlacings.l0 kj14 l0 l1 a2 (x7_1 ++ t298) (rd_L1 l0 (l1.length : Int)) ((rd_L1 l0 (l1.length : Int)).length : Int) (wrap64 (x24_1 + 1))) else (none)) = some r := H
                     have A23 := Aside0.mk A230
                     clear A230
                     by_cases c24 : x7_1.length + t298.length < 5864062014805
                     · rw [if_pos c24] at H
                       have LMc24 := Aside0.mk c24
                       clear c24
                       obtain ⟨y301, hy301⟩ : ∃ y_ : List (List Int), y_ = (x7_1 ++ t298) := ⟨_, rfl⟩
                       replace H : (spec_doPlacings.l0 kj14 l0 l1 a2 y301 (rd_L1 l0 (l1.length : Int)) ((rd_L1 l0 (l1.length : Int)).length : Int) (wrap64 (x24_1 + 1))) = some r := by first | (rw [hy301]; with_reducible exact H) | (have H2_ := (Option.bind_some _ _).symm.trans H; rw [hy301]; with_reducible exact H2_) | (have H2_ := (Option.bind_some _ _).symm.trans H; with_reducible exact H2_) | with_reducible exact H | (rw [hy301]; exact H) | exact H
                       have Ny301 := Aside0.mk hy301
                       clear hy301
                       have H' := Aside0.mk H
                       clear H
                       go_wp2_with (first | ((with_reducible refine gate_callee (f := 55) rfl ?_); refine goesL_ (some 46) rfl rfl Tryd.func55 (by kernel_rfl) rfl #[.slice A1 l1.length c1] rfl (by (try simp only [List.map_toArray, List.map_cons, List.map_nil]); first | done | rfl | (simp only [List.length_drop, List.length_take]; rfl)) ?_; (with_reducible refine (spec_l1Own.calls _ _ l1 t292 _ ?side1 ?side2 A21.out).mono ?_); (case side1 => repeat (first | exact (Kd.C_below HR1.out HB.out) | (with_reducible refine Kd.C_alloc ?_ _) | (with_reducible refine Kd.C_drewN ?_ _) | (with_reducible refine Kd.C_drew ?_))); (case side2 => exact HC1.out); rintro e w25 ⟨v293, rfl, ho0, hb⟩; refine ⟨_, rfl, ?_⟩; have n0_ := Aside0.mk (Kd.N_elder' (by (with_reducible repeat (first | apply Kd.N_alloc | apply Kd.N_drewN | apply Kd.N_drew)); exact HO_7.out) (Kd.R_base ho0) hb); have n1_ := Aside0.mk (Kd.R_lower (Kd.R_newM (M := fun k_ => (w.heap.size ≤ k_)) ho0 (below_size (by repeat (first | (with_reducible first | exact HB.out | apply below_alloc | apply pw_below_drewN | apply below_drew1) | exact HB.out))) (fun k_ h_ => h_)) (below_size (by repeat (first | (with_reducible first | exact HB.out | apply below_alloc | apply pw_below_drewN | apply below_drew1) | exact HB.out)))); have n2_ := Aside0.mk (below_step (by repeat (first | (with_reducible first | exact HB.out | apply below_alloc | apply pw_below_drewN | apply below_drew1) | exact HB.out)) hb); clear HO_7; clear HB; have HO_7 := n0_; have HO294 := n1_; have HB := n2_; clear n0_ n1_ n2_; (try clear hb); (try clear hb2); (try clear hk); (try clear hi); (try clear ho0)) | ((with_reducible refine gate_builtin (b := .append) (xs := #[.tmp 46, .tmp 48]) rfl ?_); (try (refine gate_guard (by rfl) ?_; dsimp only)); at_builtin; refine Kd.R_append (Kd.int .i64) (w0 := w) w.heap.size rfl (.tmp 46) (.tmp 48) 24 3 (.int .i64 0) 8 rfl Tryd.underlying24 info3 rfl (by decide) (by omega) v293 t292 x24_1 [.int .i64 x24_1] (fun k_ => (w.heap.size ≤ k_)) (fun _ => False) rfl rfl ?aP (fun _ hk => hk.elim) ?aF ?aO ?aB ?aS ?aL ?_; (case aP => exact rfl); (case aB => exact (by repeat (first | (with_reducible first | exact HB.out | apply below_alloc | apply pw_below_drewN | apply below_drew1) | exact HB.out))); (case aF => exact (fun k_ hk => (Nat.le_trans (below_size (by repeat (first | (with_reducible first | exact HB.out | apply below_alloc | apply pw_below_drewN | apply below_drew1) | exact HB.out))) hk))); (case aO => exact (by (with_reducible repeat (first | apply Kd.R_alloc | apply Kd.R_drewN | apply Kd.R_drew)); exact Kd.R_mono HO294.out (fun _ hk => hk.1))); (case aS => exact (below_size (by repeat (first | (with_reducible first | exact HB.out | apply below_alloc | apply pw_below_drewN | apply below_drew1) | exact HB.out)))); (case aL => have := LMc22.out; omega); intro v296 w26 ho hb hg hat; rw [← Ny295.out] at ho; have n0_ := Aside0.mk (Kd.N_afterv (ok := (fun k_ => (w.heap.size ≤ k_))) (by (with_reducible repeat (first | apply Kd.N_alloc | apply Kd.N_drewN | apply Kd.N_drew)); exact HO_7.out) hg hat); have n1_ := Aside0.mk (hb); have n2_ := Aside0.mk (ho); clear HO_7; clear HB; clear HO294; have HO_7 := n0_; have HB := n1_; have HO297 := n2_; clear n0_ n1_ n2_; clear ho hb hg hat; obtain ⟨Ao27, co27, eo27⟩ := Kd.N_slice HO_7.out; subst eo27; obtain ⟨Ao28, co28, eo28⟩ := Kd.R_slice HO297.out; subst eo28) | ((with_reducible refine gate_callee (f := 38) rfl ?_); refine goesL_ (some 54) rfl rfl Tryd.func38 (by kernel_rfl) rfl #[.slice (some ad289) l0.length c0, .slice Ao28 y295.length co28, .int .i64 (wrap64 (a2 - (x7_1.length : Int)))] rfl (by (try simp only [List.map_toArray, List.map_cons, List.map_nil]); first | done | rfl | (simp only [List.length_drop, List.length_take]; rfl)) ?_; (with_reducible refine (ih kj14 (by have := HK1.out; have := HJ14.out; omega) _ _ l0 _ _ y295 (wrap64 (a2 - (x7_1.length : Int))) t298 _ ?side1 ?side2 ?side3 ?side4 A23.out).mono ?_); (case side1 => repeat (first | exact (Kd.C_below HR0.out HB.out) | (with_reducible refine Kd.C_alloc ?_ _) | (with_reducible refine Kd.C_drewN ?_ _) | (with_reducible refine Kd.C_drew ?_))); (case side2 => exact HC0.out); (case side3 => repeat (first | exact (Kd.R_reads' HO297.out).2.2 | (with_reducible refine Kd.C_alloc ?_ _) | (with_reducible refine Kd.C_drewN ?_ _) | (with_reducible refine Kd.C_drew ?_))); (case side4 => exact (Kd.R_reads' HO297.out).2.1); rintro e w29 ⟨v299, rfl, ho0, hb⟩; refine ⟨_, rfl, ?_⟩; have n0_ := Aside0.mk (Kd.N_elder' (by (with_reducible repeat (first | apply Kd.N_alloc | apply Kd.N_drewN | apply Kd.N_drew)); exact HO_7.out) (Kd.N_base ho0) hb); have n1_ := Aside0.mk (Kd.R_below (by (with_reducible repeat (first | apply Kd.R_alloc | apply Kd.R_drewN | apply Kd.R_drew)); exact HO297.out) hb); have n2_ := Aside0.mk (Kd.N_lower (Kd.N_mono (ok' := fun k_ => (w.heap.size ≤ k_) ∧ some k_ ≠ (.slice Ao27 x7_1.length co27 : Value).ownBlock ∧ some k_ ≠ (.slice Ao28 y295.length co28 : Value).ownBlock) ho0 (fun k_ hk_ => ⟨(Nat.le_trans (below_size (by repeat (first | (with_reducible first | exact HB.out | apply below_alloc | apply pw_below_drewN | apply below_drew1) | exact HB.out))) hk_), (Kd.fresh' (Kd.N_lt (by (with_reducible repeat (first | apply Kd.N_alloc | apply Kd.N_drewN | apply Kd.N_drew)); exact HO_7.out)) k_ hk_), (Kd.fresh' (Kd.R_lt (by (with_reducible repeat (first | apply Kd.R_alloc | apply Kd.R_drewN | apply Kd.R_drew)); exact HO297.out)) k_ hk_)⟩)) (below_size (by repeat (first | (with_reducible first | exact HB.out | apply below_alloc | apply pw_below_drewN | apply below_drew1) | exact HB.out)))); have n3_ := Aside0.mk (below_step (by repeat (first | (with_reducible first | exact HB.out | apply below_alloc | apply pw_below_drewN | apply below_drew1) | exact HB.out)) hb); clear HO_7; clear HO297; clear HB; have HO_7 := n0_; have HO297 := n1_; have HO300 := n2_; have HB := n3_; clear n0_ n1_ n2_ n3_; (try clear hb); (try clear hb2); (try clear hk); (try clear hi); (try clear ho0); obtain ⟨Ao31, co31, eo31⟩ := Kd.N_slice HO300.out; subst eo31) | ((with_reducible refine gate_builtin (b := .append) (xs := #[.tmp 43, .tmp 54]) rfl ?_); (try (refine gate_guard (by rfl) ?_; dsimp only)); at_builtin; refine Kd.N_append_rows (Kd.slice 3 (Kd.int .i64)) (w0 := w) w.heap.size rfl (.tmp 43) (.tmp 54) 22 24 (.slice none 0 0) 24 rfl Tryd.underlying22 info24 rfl (by decide) (by omega) (.slice Ao27 x7_1.length co27) x7_1 t298 _ _ _ (fun k_ => (w.heap.size ≤ k_) ∧ some k_ ≠ (.slice Ao28 y295.length co28 : Value).ownBlock) (fun k_ => ((fun k_ => (w.heap.size ≤ k_) ∧ some k_ ≠ (.slice Ao28 y295.length co28 : Value).ownBlock)) k_ ∧ some k_ ≠ (.slice Ao27 x7_1.length co27 : Value).ownBlock) rfl rfl ?aO ?aR (fun _ hk => hk) ?aF ?aB ?aS ?aL ?_; (case aR => exact (by skip; exact Kd.N_F (Kd.N_mono (ok' := (fun k_ => ((fun k_ => (w.heap.size ≤ k_) ∧ some k_ ≠ (.slice Ao28 y295.length co28 : Value).ownBlock)) k_ ∧ some k_ ≠ (.slice Ao27 x7_1.length co27 : Value).ownBlock)) (HO300.out) (fun k_ hk => ⟨⟨hk.1, hk.2.2⟩, hk.2.1⟩)))); (case aB => exact (by repeat (first | (with_reducible first | exact HB.out | apply below_alloc | apply pw_below_drewN | apply below_drew1) | exact HB.out))); (case aF => exact (fun k_ hk => ⟨(Nat.le_trans (below_size (by repeat (first | (with_reducible first | exact HB.out | apply below_alloc | apply pw_below_drewN | apply below_drew1) | exact HB.out))) hk), Kd.fresh' (Kd.R_lt (by (with_reducible repeat (first | apply Kd.R_alloc | apply Kd.R_drewN | apply Kd.R_drew)); exact HO297.out)) k_ hk⟩)); (case aO => exact (by (with_reducible repeat (first | apply Kd.N_alloc | apply Kd.N_drewN | apply Kd.N_drew)); exact Kd.N_mono HO_7.out (fun _ hk => ⟨hk.1.1, hk.1.2⟩))); (case aS => exact (below_size (by repeat (first | (with_reducible first | exact HB.out | apply below_alloc | apply pw_below_drewN | apply below_drew1) | exact HB.out)))); (case aL => have := LMc24.out; omega); intro v302 w30 ho hb hg hat; rw [← Ny301.out] at ho; have n0_ := Aside0.mk (Kd.R_over' (by (with_reducible repeat (first | apply Kd.R_alloc | apply Kd.R_drewN | apply Kd.R_drew)); exact HO297.out) (Kd.N_typed (by (with_reducible repeat (first | apply Kd.N_alloc | apply Kd.N_drewN | apply Kd.N_drew)); exact HO_7.out)) (by decide) hg); have n1_ := Aside0.mk (Kd.N_afterv (ok := (fun k_ => (w.heap.size ≤ k_) ∧ some k_ ≠ (.slice Ao28 y295.length co28 : Value).ownBlock)) (by (with_reducible repeat (first | apply Kd.N_alloc | apply Kd.N_drewN | apply Kd.N_drew)); exact Kd.N_mono HO300.out (fun _ hk => ⟨⟨hk.1, hk.2.2⟩, hk.2.1⟩)) hg hat); have n2_ := Aside0.mk (hb); have n3_ := Aside0.mk (ho); clear HO297; clear HO300; clear HB; clear HO_7; have HO297 := n0_; have HO300 := n1_; have HB := n2_; have HO303 := n3_; clear n0_ n1_ n2_ n3_; clear ho hb hg hat))
                       go_roundg kj14
                       case measure => have := HK1.out; have := HJ14.out; omega
                       case rel => exact ⟨(y301), (wrap64 (x24_1 + 1)), (by first | rfl | (simp; done) | (simp [*]; done)), H', ⟨by have := HK1.out; have := HJ14.out; omega⟩, ⟨by (with_reducible repeat (first | apply Kd.N_alloc | apply Kd.N_drewN | apply Kd.N_drew)); exact Kd.N_mono HO303.out (fun _ hk => hk.1)⟩, ⟨by repeat (first | (with_reducible first | exact HB.out | apply below_alloc | apply pw_below_drewN | apply below_drew1) | exact HB.out)⟩⟩
                     · rw [if_neg c24] at H
                       exact absurd H (by simp)
                   · rw [if_neg c22] at H
                     exact absurd H (by simp)
                 · replace c20 := Bool.eq_false_iff.mpr c20
                   subst c20
                   have H1 : (spec_doPlacings.l0 kj14 l0 l1 a2 x7_1 (rd_L1 l0 (l1.length : Int)) ((rd_L1 l0 (l1.length : Int)).length : Int) (wrap64 (x24_1 + 1))) = some r := by rw [if_neg (show ¬ (false = true) by decide)] at H; exact H
                   clear H
                   have H := H1
                   clear H1
                   have H' := Aside0.mk H
                   clear H
                   go_wp2
                   go_roundg kj14
                   case measure => have := HK1.out; have := HJ14.out; omega
                   case rel => exact ⟨(x7_1), (wrap64 (x24_1 + 1)), (by first | rfl | (simp; done) | (simp [*]; done)), H', ⟨by have := HK1.out; have := HJ14.out; omega⟩, ⟨by (with_reducible repeat (first | apply Kd.N_alloc | apply Kd.N_drewN | apply Kd.N_drew)); exact HO_7.out⟩, ⟨by repeat (first | (with_reducible first | exact HB.out | apply below_alloc | apply pw_below_drewN | apply below_drew1) | exact HB.out)⟩⟩
             · rw [if_neg c14] at H
               exact absurd H (by simp)
           · rw [if_neg c13] at H
             exact absurd H (by simp)
         · rw [if_neg c12] at H
           have c12b0 : decide (x24_1 < ((rd_L1 l0 (l1.length : Int)).length : Int)) = false := decide_eq_false c12
           clear c12
           obtain rfl := Option.some.inj H
           go_wp2
           go_ret
           exact ⟨_, by first | rfl | (simp [errW_none, errW_some] <;> rfl) | (simp [*, errW_none, errW_some] <;> rfl), by (with_reducible repeat (first | apply Kd.N_alloc | apply Kd.N_drewN | apply Kd.N_drew)); exact HO_7.out, by repeat (first | (with_reducible first | exact HB.out | apply below_alloc | apply pw_below_drewN | apply below_drew1) | exact HB.out)⟩
     · rw [if_neg c11] at H
       exact absurd H (by simp)
   · rw [if_neg c10] at H
     exact absurd H (by simp)

end Go.Proofs.YtgcgecbdmomceaaDoor.A

-- made by a program of this repo (wip/pp.py) through the kit's printer
namespace Go.Proofs.YtgcgecbdmomceaaDoor.A
open Go.RowKit Go.Proofs.YtgcgecbdmomceaaDoorW.PrintWords Go.Proofs.YtgcgecbdmomceaaDoorW.PrintLast Go.Proofs.YtgcgecbdmomceaaDoorW.PrintMore
attribute [local go_sem] max2_int min2_int max_two min_two max_three min_three max_four min_four
set_option linter.unusedVariables false
set_option linter.unusedSimpArgs false

/-! ### spec_FirstPlacing: function 17 -/
def spec_FirstPlacing.f (k : Nat) (l0 : List (List Int)) : Option (List Int × Bool) := (spec_doGood.f k l0).bind fun t304 => (if t304 = true then ((spec_doPlacings.f k l0 ([] : List Int) 1).bind fun t305 => (if (t305.length : Int) = 0 then (some (([] : List Int), false)) else (if 0 < (t305.length : Int) then (some (rd_L1 t305 0, true)) else (none)))) else (some (([] : List Int), false)))
set_option maxHeartbeats 8000000 in
set_option maxRecDepth 100000 in
theorem spec_FirstPlacing.calls (k : Nat) (A0 : Option Addr) (c0 : Nat) (l0 : List (List Int)) (r1 : List Int) (r2 : Bool) (w : World) (hr0 : Kd.C (Kd.slice 3 (Kd.int .i64)) w A0 l0.length l0) (hc0 : l0.length ≤ c0) (h : spec_FirstPlacing.f k l0 = some (r1, r2)) :
 Calls Tryd.prog 17 #[.slice A0 l0.length c0] w fun e w' => ∃ v0_ : Value, e = .returned (.tuple #[v0_, .bool r2]) ∧ Kd.V (Kd.int .i64) 3 w' w.heap.size (fun k_ => (w.heap.size ≤ k_)) v0_ r1 ∧ Below w.heap.size w w' := by
 have HR0 := Aside0.mk hr0
 have HC0 := Aside0.mk hc0
 clear hr0 hc0
 have HB := Aside0.mk (Below.refl w.heap.size w)
 have H : ((spec_doGood.f k l0).bind fun t304 => (if t304 = true then ((spec_doPlacings.f k l0 ([] : List Int) 1).bind fun t305 => (if (t305.length : Int) = 0 then (some (([] : List Int), false)) else (if 0 < (t305.length : Int) then (some (rd_L1 t305 0, true)) else (none)))) else (some (([] : List Int), false)))) = some (r1, r2) := h
 clear h
 replace H := Option.bind_eq_some_iff.mp H
 obtain ⟨t304, A20, H⟩ := H
 replace H : (if t304 = true then ((spec_doPlacings.f k l0 ([] : List Int) 1).bind fun t305 => (if (t305.length : Int) = 0 then (some (([] : List Int), false)) else (if 0 < (t305.length : Int) then (some (rd_L1 t305 0, true)) else (none)))) else (some (([] : List Int), false))) = some (r1, r2) := H
 have A2 := Aside0.mk A20
 clear A20
 by_cases c3 : t304 = true
 · subst c3
   have H1 : ((spec_doPlacings.f k l0 ([] : List Int) 1).bind fun t305 => (if (t305.length : Int) = 0 then (some (([] : List Int), false)) else (if 0 < (t305.length : Int) then (some (rd_L1 t305 0, true)) else (none)))) = some (r1, r2) := by rw [if_pos rfl] at H; exact H
   clear H
   have H := H1
   clear H1
   replace H := Option.bind_eq_some_iff.mp H
   obtain ⟨t305, A40, H⟩ := H
   replace H : (if (t305.length : Int) = 0 then (some (([] : List Int), false)) else (if 0 < (t305.length : Int) then (some (rd_L1 t305 0, true)) else (none))) = some (r1, r2) := H
   have A4 := Aside0.mk A40
   clear A40
   by_cases c5 : (t305.length : Int) = 0
   · rw [if_pos c5] at H
     have c5b0 : ((t305.length : Int) == 0) = true := beq_iff_eq.mpr c5
     have c5b1 : ((t305.length : Int) != 0) = false := bne_eq_false_iff_eq.mpr c5
     clear c5
     simp only [Option.some.injEq, Prod.mk.injEq] at H
     obtain ⟨rfl, rfl⟩ := H
     go_enter Tryd.func17, Tryd.ntmps17
     go_wp2_with (first | ((with_reducible refine gate_callee (f := 29) rfl ?_); refine goesL_ (some 6) rfl rfl Tryd.func29 (by kernel_rfl) rfl #[.slice A0 l0.length c0] rfl (by (try simp only [List.map_toArray, List.map_cons, List.map_nil]); first | done | rfl | (simp only [List.length_drop, List.length_take]; rfl)) ?_; (with_reducible refine (spec_doGood.calls k _ _ l0 true _ ?side1 ?side2 A2.out).mono ?_); (case side1 => repeat (first | exact HR0.out | (with_reducible refine Kd.C_alloc ?_ _) | (with_reducible refine Kd.C_drewN ?_ _) | (with_reducible refine Kd.C_drew ?_))); (case side2 => exact HC0.out); rintro e w' ⟨rfl, ⟨nd, rfl⟩⟩; refine ⟨_, rfl, ?_⟩) | ((with_reducible refine gate_callee (f := 38) rfl ?_); refine goesL_ (some 9) rfl rfl Tryd.func38 (by kernel_rfl) rfl #[.slice A0 l0.length c0, .slice none 0 0, .int .i64 1] rfl (by (try simp only [List.map_toArray, List.map_cons, List.map_nil]); first | done | rfl | (simp only [List.length_drop, List.length_take]; rfl)) ?_; (refine (spec_doPlacings.calls k _ _ l0 _ _ ([] : List Int) 1 t305 _ ?side1 ?side2 ?side3 ?side4 A4.out).mono ?_); (case side1 => repeat (first | exact HR0.out | (with_reducible refine Kd.C_alloc ?_ _) | (with_reducible refine Kd.C_drewN ?_ _) | (with_reducible refine Kd.C_drew ?_))); (case side2 => exact HC0.out); (case side3 => exact Kd.C_nil _ _); (case side4 => exact Nat.le_refl _); rintro e w6 ⟨v306, rfl, ho0, hb⟩; refine ⟨_, rfl, ?_⟩; have n0_ := Aside0.mk (Kd.N_lower (Kd.N_mono (ok' := fun k_ => (w.heap.size ≤ k_)) ho0 (fun k_ hk_ => (Nat.le_trans (below_size (by repeat (first | (with_reducible first | exact HB.out | apply below_alloc | apply pw_below_drewN | apply below_drew1) | exact HB.out))) hk_))) (below_size (by repeat (first | (with_reducible first | exact HB.out | apply below_alloc | apply pw_below_drewN | apply below_drew1) | exact HB.out)))); have n1_ := Aside0.mk (below_step (by repeat (first | (with_reducible first | exact HB.out | apply below_alloc | apply pw_below_drewN | apply below_drew1) | exact HB.out)) hb); clear HB; have HO307 := n0_; have HB := n1_; clear n0_ n1_; (try clear hb); (try clear hb2); (try clear hk); (try clear hi); (try clear ho0); obtain ⟨Ao7, co7, eo7⟩ := Kd.N_slice HO307.out; subst eo7))
     go_ret2
     exact ⟨_, by first | rfl | (simp [errW_none, errW_some] <;> rfl) | (simp [*, errW_none, errW_some] <;> rfl), (by first | exact Kd.V_nil _ _ _ _ _ | exact Kd.R_V (by first | exact Kd.R_nil _ _ _ _ _ | exact Kd.N_nil _ _ _ _ _ | exact Kd.V_nil _ _ _ _ _ | exact Kd.Q_nil _ _ _ _ _ | exact Kd.S_nil _ _ _ _ _)), by repeat (first | (with_reducible first | exact HB.out | apply below_alloc | apply pw_below_drewN | apply below_drew1) | exact HB.out)⟩
   · rw [if_neg c5] at H
     have c5b0 : ((t305.length : Int) == 0) = false := beq_eq_false_iff_ne.mpr c5
     have c5b1 : ((t305.length : Int) != 0) = true := bne_iff_ne.mpr c5
     have c5b2 : ¬ (t305 = []) := fun h_ => c5 (by rw [h_]; rfl)
     by_cases c8 : 0 < (t305.length : Int)
     · rw [if_pos c8] at H
       have c8b0 : decide (0 < (t305.length : Int)) = true := decide_eq_true c8
       have c8b1 : decide (0 < t305.length) = true := decide_eq_true (by omega)
       clear c8
       simp only [Option.some.injEq, Prod.mk.injEq] at H
       obtain ⟨rfl, rfl⟩ := H
       go_enter Tryd.func17, Tryd.ntmps17
       go_wp2_with (first | ((with_reducible refine gate_callee (f := 29) rfl ?_); refine goesL_ (some 6) rfl rfl Tryd.func29 (by kernel_rfl) rfl #[.slice A0 l0.length c0] rfl (by (try simp only [List.map_toArray, List.map_cons, List.map_nil]); first | done | rfl | (simp only [List.length_drop, List.length_take]; rfl)) ?_; (with_reducible refine (spec_doGood.calls k _ _ l0 true _ ?side1 ?side2 A2.out).mono ?_); (case side1 => repeat (first | exact HR0.out | (with_reducible refine Kd.C_alloc ?_ _) | (with_reducible refine Kd.C_drewN ?_ _) | (with_reducible refine Kd.C_drew ?_))); (case side2 => exact HC0.out); rintro e w' ⟨rfl, ⟨nd, rfl⟩⟩; refine ⟨_, rfl, ?_⟩) | ((with_reducible refine gate_callee (f := 38) rfl ?_); refine goesL_ (some 9) rfl rfl Tryd.func38 (by kernel_rfl) rfl #[.slice A0 l0.length c0, .slice none 0 0, .int .i64 1] rfl (by (try simp only [List.map_toArray, List.map_cons, List.map_nil]); first | done | rfl | (simp only [List.length_drop, List.length_take]; rfl)) ?_; (refine (spec_doPlacings.calls k _ _ l0 _ _ ([] : List Int) 1 t305 _ ?side1 ?side2 ?side3 ?side4 A4.out).mono ?_); (case side1 => repeat (first | exact HR0.out | (with_reducible refine Kd.C_alloc ?_ _) | (with_reducible refine Kd.C_drewN ?_ _) | (with_reducible refine Kd.C_drew ?_))); (case side2 => exact HC0.out); (case side3 => exact Kd.C_nil _ _); (case side4 => exact Nat.le_refl _); rintro e w9 ⟨v306, rfl, ho0, hb⟩; refine ⟨_, rfl, ?_⟩; have n0_ := Aside0.mk (Kd.N_lower (Kd.N_mono (ok' := fun k_ => (w.heap.size ≤ k_)) ho0 (fun k_ hk_ => (Nat.le_trans (below_size (by repeat (first | (with_reducible first | exact HB.out | apply below_alloc | apply pw_below_drewN | apply below_drew1) | exact HB.out))) hk_))) (below_size (by repeat (first | (with_reducible first | exact HB.out | apply below_alloc | apply pw_below_drewN | apply below_drew1) | exact HB.out)))); have n1_ := Aside0.mk (below_step (by repeat (first | (with_reducible first | exact HB.out | apply below_alloc | apply pw_below_drewN | apply below_drew1) | exact HB.out)) hb); clear HB; have HO307 := n0_; have HB := n1_; clear n0_ n1_; (try clear hb); (try clear hb2); (try clear hk); (try clear hi); (try clear ho0); obtain ⟨Ao10, co10, eo10⟩ := Kd.N_slice HO307.out; subst eo10; have p308 : 0 ≤ (0 : Int) := (by omega); have q308 : 0 < (t305.length : Int) := of_decide_eq_true (by first | (with_reducible assumption) | assumption); obtain ⟨ad308, A308_0, c308_0, e308, hx308_0, hl308_0, hi308_0⟩ := at_L1 (Kd.N_reads' HO307.out).2.2 0 p308 q308; cases e308; obtain ⟨ce308, hce308, hMe308, hcc308⟩ := Kd.N_get HO307.out [] 0 p308 (by first | exact q308 | exact of_decide_eq_true (by first | (with_reducible assumption) | assumption) | (have e_ := (Kd.N_reads' HO307.out).1; omega)); obtain ⟨ua308_0, uc308_0, rfl, ul308_0, ge308_0⟩ := Kd.FK_slice_open hMe308; have hv308_0 := hcc308 0 _ rfl; rw [Nat.add_zero, show ((Kd.slice 3 (Kd.int .i64))).sz = 1 from rfl, Nat.mul_one] at hv308_0; replace hv308_0 := Option.some.inj (hv308_0.symm.trans hx308_0); injection hv308_0 with hva_ hvn_ hvc_; rw [hva_] at ge308_0; rw [hvc_] at ul308_0; have HL308_0 := Aside0.mk (show Kd.V (Kd.int .i64) 3 _ w.heap.size _ _ (rd_L1 t305 0) from Kd.V_mk ul308_0 ge308_0); clear hva_ hvn_ hvc_ ge308_0 ul308_0; clear hcc308 hce308; have qi308 : (0 < t305.length) = True := eq_true (by omega); (try rw [show ((0 : Int)).toNat = 0 from rfl] at hx308_0); (try rw [Addr.add_zero'] at hx308_0); have HR308_0 := Aside0.mk hi308_0; have HC308_0 := Aside0.mk hl308_0; clear hi308_0 hl308_0; replace p308 := eq_true p308; replace q308 := eq_true q308))
       go_ret2
       exact ⟨_, by first | rfl | (simp [errW_none, errW_some] <;> rfl) | (simp [*, errW_none, errW_some] <;> rfl), by (with_reducible repeat (first | apply Kd.V_alloc | apply Kd.V_drewN | apply Kd.V_drew)); exact Kd.V_mono HL308_0.out (fun _ hk => hk.1), by repeat (first | (with_reducible first | exact HB.out | apply below_alloc | apply pw_below_drewN | apply below_drew1) | exact HB.out)⟩
     · rw [if_neg c8] at H
       exact absurd H (by simp)
 · replace c3 := Bool.eq_false_iff.mpr c3
   subst c3
   have H1 : (some (([] : List Int), false)) = some (r1, r2) := by rw [if_neg (show ¬ (false = true) by decide)] at H; exact H
   clear H
   have H := H1
   clear H1
   simp only [Option.some.injEq, Prod.mk.injEq] at H
   obtain ⟨rfl, rfl⟩ := H
   go_enter Tryd.func17, Tryd.ntmps17
   go_wp2_with (first | ((with_reducible refine gate_callee (f := 29) rfl ?_); refine goesL_ (some 6) rfl rfl Tryd.func29 (by kernel_rfl) rfl #[.slice A0 l0.length c0] rfl (by (try simp only [List.map_toArray, List.map_cons, List.map_nil]); first | done | rfl | (simp only [List.length_drop, List.length_take]; rfl)) ?_; (with_reducible refine (spec_doGood.calls k _ _ l0 false _ ?side1 ?side2 A2.out).mono ?_); (case side1 => repeat (first | exact HR0.out | (with_reducible refine Kd.C_alloc ?_ _) | (with_reducible refine Kd.C_drewN ?_ _) | (with_reducible refine Kd.C_drew ?_))); (case side2 => exact HC0.out); rintro e w' ⟨rfl, ⟨nd, rfl⟩⟩; refine ⟨_, rfl, ?_⟩))
   go_ret2
   exact ⟨_, by first | rfl | (simp [errW_none, errW_some] <;> rfl) | (simp [*, errW_none, errW_some] <;> rfl), (by first | exact Kd.V_nil _ _ _ _ _ | exact Kd.R_V (by first | exact Kd.R_nil _ _ _ _ _ | exact Kd.N_nil _ _ _ _ _ | exact Kd.V_nil _ _ _ _ _ | exact Kd.Q_nil _ _ _ _ _ | exact Kd.S_nil _ _ _ _ _)), by repeat (first | (with_reducible first | exact HB.out | apply below_alloc | apply pw_below_drewN | apply below_drew1) | exact HB.out)⟩

end Go.Proofs.YtgcgecbdmomceaaDoor.A

-- made by a program of this repo (wip/pp.py) through the kit's printer
namespace Go.Proofs.YtgcgecbdmomceaaDoor.A
open Go.RowKit Go.Proofs.YtgcgecbdmomceaaDoorW.PrintWords Go.Proofs.YtgcgecbdmomceaaDoorW.PrintLast Go.Proofs.YtgcgecbdmomceaaDoorW.PrintMore
attribute [local go_sem] max2_int min2_int max_two min_two max_three min_three max_four min_four
set_option linter.unusedVariables false
set_option linter.unusedSimpArgs false

/-! ### spec_CountPlacings: function 19 -/
def spec_CountPlacings.f (k : Nat) (l0 : List (List Int)) : Option (Int × Bool) := (spec_doGood.f k l0).bind fun t309 => (if t309 = true then ((spec_doPlacings.f k l0 ([] : List Int) 1000).bind fun t310 => (some ((t310.length : Int), true))) else (some (0, false)))
set_option maxHeartbeats 8000000 in
set_option maxRecDepth 100000 in
theorem spec_CountPlacings.calls (k : Nat) (A0 : Option Addr) (c0 : Nat) (l0 : List (List Int)) (r1 : Int) (r2 : Bool) (w : World) (hr0 : Kd.C (Kd.slice 3 (Kd.int .i64)) w A0 l0.length l0) (hc0 : l0.length ≤ c0) (h : spec_CountPlacings.f k l0 = some (r1, r2)) :
 Calls Tryd.prog 19 #[.slice A0 l0.length c0] w fun e w' => e = .returned (.tuple #[.int .i64 r1, .bool r2]) ∧ Below w.heap.size w w' := by
 have HR0 := Aside0.mk hr0
 have HC0 := Aside0.mk hc0
 clear hr0 hc0
 have HB := Aside0.mk (Below.refl w.heap.size w)
 have H : ((spec_doGood.f k l0).bind fun t309 => (if t309 = true then ((spec_doPlacings.f k l0 ([] : List Int) 1000).bind fun t310 => (some ((t310.length : Int), true))) else (some (0, false)))) = some (r1, r2) := h
 clear h
 replace H := Option.bind_eq_some_iff.mp H
 obtain ⟨t309, A20, H⟩ := H
 replace H : (if t309 = true then ((spec_doPlacings.f k l0 ([] : List Int) 1000).bind fun t310 => (some ((t310.length : Int), true))) else (some (0, false))) = some (r1, r2) := H
 have A2 := Aside0.mk A20
 clear A20
 by_cases c3 : t309 = true
 · subst c3
   have H1 : ((spec_doPlacings.f k l0 ([] : List Int) 1000).bind fun t310 => (some ((t310.length : Int), true))) = some (r1, r2) := by rw [if_pos rfl] at H; exact H
   clear H
   have H := H1
   clear H1
   replace H := Option.bind_eq_some_iff.mp H
   obtain ⟨t310, A40, H⟩ := H
   replace H : (some ((t310.length : Int), true)) = some (r1, r2) := H
   have A4 := Aside0.mk A40
   clear A40
   simp only [Option.some.injEq, Prod.mk.injEq] at H
   obtain ⟨rfl, rfl⟩ := H
   go_enter Tryd.func19, Tryd.ntmps19
   go_wp2_with (first | ((with_reducible refine gate_callee (f := 29) rfl ?_); refine goesL_ (some 5) rfl rfl Tryd.func29 (by kernel_rfl) rfl #[.slice A0 l0.length c0] rfl (by (try simp only [List.map_toArray, List.map_cons, List.map_nil]); first | done | rfl | (simp only [List.length_drop, List.length_take]; rfl)) ?_; (with_reducible refine (spec_doGood.calls k _ _ l0 true _ ?side1 ?side2 A2.out).mono ?_); (case side1 => repeat (first | exact HR0.out | (with_reducible refine Kd.C_alloc ?_ _) | (with_reducible refine Kd.C_drewN ?_ _) | (with_reducible refine Kd.C_drew ?_))); (case side2 => exact HC0.out); rintro e w' ⟨rfl, ⟨nd, rfl⟩⟩; refine ⟨_, rfl, ?_⟩) | ((with_reducible refine gate_callee (f := 38) rfl ?_); refine goesL_ (some 8) rfl rfl Tryd.func38 (by kernel_rfl) rfl #[.slice A0 l0.length c0, .slice none 0 0, .int .i64 1000] rfl (by (try simp only [List.map_toArray, List.map_cons, List.map_nil]); first | done | rfl | (simp only [List.length_drop, List.length_take]; rfl)) ?_; (refine (spec_doPlacings.calls k _ _ l0 _ _ ([] : List Int) 1000 t310 _ ?side1 ?side2 ?side3 ?side4 A4.out).mono ?_); (case side1 => repeat (first | exact HR0.out | (with_reducible refine Kd.C_alloc ?_ _) | (with_reducible refine Kd.C_drewN ?_ _) | (with_reducible refine Kd.C_drew ?_))); (case side2 => exact HC0.out); (case side3 => exact Kd.C_nil _ _); (case side4 => exact Nat.le_refl _); rintro e w5 ⟨v311, rfl, ho0, hb⟩; refine ⟨_, rfl, ?_⟩; have n0_ := Aside0.mk (Kd.N_lower (Kd.N_mono (ok' := fun k_ => True) ho0 (fun k_ hk_ => trivial)) (below_size (by repeat (first | (with_reducible first | exact HB.out | apply below_alloc | apply pw_below_drewN | apply below_drew1) | exact HB.out)))); have n1_ := Aside0.mk (below_step (by repeat (first | (with_reducible first | exact HB.out | apply below_alloc | apply pw_below_drewN | apply below_drew1) | exact HB.out)) hb); clear HB; have HO312 := n0_; have HB := n1_; clear n0_ n1_; (try clear hb); (try clear hb2); (try clear hk); (try clear hi); (try clear ho0); obtain ⟨Ao6, co6, eo6⟩ := Kd.N_slice HO312.out; subst eo6))
   go_ret2
   exact ⟨by first | rfl | (simp [errW_none, errW_some] <;> rfl) | (simp [*, errW_none, errW_some] <;> rfl), by repeat (first | (with_reducible first | exact HB.out | apply below_alloc | apply pw_below_drewN | apply below_drew1) | exact HB.out)⟩
 · replace c3 := Bool.eq_false_iff.mpr c3
   subst c3
   have H1 : (some (0, false)) = some (r1, r2) := by rw [if_neg (show ¬ (false = true) by decide)] at H; exact H
   clear H
   have H := H1
   clear H1
   simp only [Option.some.injEq, Prod.mk.injEq] at H
   obtain ⟨rfl, rfl⟩ := H
   go_enter Tryd.func19, Tryd.ntmps19
   go_wp2_with (first | ((with_reducible refine gate_callee (f := 29) rfl ?_); refine goesL_ (some 5) rfl rfl Tryd.func29 (by kernel_rfl) rfl #[.slice A0 l0.length c0] rfl (by (try simp only [List.map_toArray, List.map_cons, List.map_nil]); first | done | rfl | (simp only [List.length_drop, List.length_take]; rfl)) ?_; (with_reducible refine (spec_doGood.calls k _ _ l0 false _ ?side1 ?side2 A2.out).mono ?_); (case side1 => repeat (first | exact HR0.out | (with_reducible refine Kd.C_alloc ?_ _) | (with_reducible refine Kd.C_drewN ?_ _) | (with_reducible refine Kd.C_drew ?_))); (case side2 => exact HC0.out); rintro e w' ⟨rfl, ⟨nd, rfl⟩⟩; refine ⟨_, rfl, ?_⟩))
   go_ret2
   exact ⟨by first | rfl | (simp [errW_none, errW_some] <;> rfl) | (simp [*, errW_none, errW_some] <;> rfl), by repeat (first | (with_reducible first | exact HB.out | apply below_alloc | apply pw_below_drewN | apply below_drew1) | exact HB.out)⟩

end Go.Proofs.YtgcgecbdmomceaaDoor.A

-- made by a program of this repo (wip/pp.py) through the kit's printer
namespace Go.Proofs.YtgcgecbdmomceaaDoor.A
open Go.RowKit Go.Proofs.YtgcgecbdmomceaaDoorW.PrintWords Go.Proofs.YtgcgecbdmomceaaDoorW.PrintLast Go.Proofs.YtgcgecbdmomceaaDoorW.PrintMore
attribute [local go_sem] max2_int min2_int max_two min_two max_three min_three max_four min_four
set_option linter.unusedVariables false
set_option linter.unusedSimpArgs false

/-! ### laws_ySame: function 20 -/
def laws_ySame.l0 : Nat → List Int → List Int → Int → Int → Option (Bool)
 | 0, _, _, _, _ => none
 | k + 1, x0, x1, x12, x13 => if x13 < x12 then (if 0 ≤ x13 then (if x13 < (x0.length : Int) then (if x13 < (x1.length : Int) then (if (rd x0 x13) = (rd x1 x13) then (laws_ySame.l0 k x0 x1 x12 (wrap64 (x13 + 1))) else (some false)) else (none)) else (none)) else (none)) else (some true)
def laws_ySame.f (k : Nat) (l0 : List Int) (l1 : List Int) : Option (Bool) := if (l0.length : Int) = (l1.length : Int) then (laws_ySame.l0 k l0 l1 (l0.length : Int) 0) else (some false)
set_option maxHeartbeats 8000000 in
set_option maxRecDepth 100000 in
theorem laws_ySame.calls (k : Nat) (A0 : Option Addr) (c0 : Nat) (l0 : List Int) (A1 : Option Addr) (c1 : Nat) (l1 : List Int) (r : Bool) (w : World) (hr0 : Kd.C (Kd.int .i64) w A0 l0.length l0) (hc0 : l0.length ≤ c0) (hr1 : Kd.C (Kd.int .i64) w A1 l1.length l1) (hc1 : l1.length ≤ c1) (h : laws_ySame.f k l0 l1 = some r) :
 Calls Tryd.prog 20 #[.slice A0 l0.length c0, .slice A1 l1.length c1] w fun e w' => e = .returned (.bool r) ∧ Drawn0 w w' := by
 have HR0 := Aside0.mk hr0
 have HC0 := Aside0.mk hc0
 clear hr0 hc0
 have HR1 := Aside0.mk hr1
 have HC1 := Aside0.mk hc1
 clear hr1 hc1
 have H : (if (l0.length : Int) = (l1.length : Int) then (laws_ySame.l0 k l0 l1 (l0.length : Int) 0) else (some false)) = some r := h
 clear h
 by_cases c3 : (l0.length : Int) = (l1.length : Int)
 · rw [if_pos c3] at H
   have c3b0 : ((l0.length : Int) == (l1.length : Int)) = true := beq_iff_eq.mpr c3
   have c3b1 : ((l0.length : Int) != (l1.length : Int)) = false := bne_eq_false_iff_eq.mpr c3
   have c3b2 : (l0.length == l1.length) = true := by first | simpa using c3 | (simp at c3 ⊢; omega)
   clear c3
   have H' := Aside0.mk H
   clear H
   go_enter Tryd.func20, Tryd.ntmps20
   go_wp2
   repeat (go_quiet (fail); try go_wp2)
   go_loopg [13] k (fun kq v13 w' => ∃ (x13_1 : Int), v13 = .int .i64 x13_1 ∧ Aside0 (laws_ySame.l0 kq l0 l1 (l0.length : Int) x13_1 = some r) ∧ Aside0 (kq ≤ k) ∧ Drawn0 w w')
   case atStart => exact ⟨(0), (by first | rfl | (simp; done) | (simp [*]; done)), H', ⟨Nat.le_refl _⟩, by repeat (first | exact Drawn0.refl _ | apply Drawn0.step)⟩
   case round =>
    clear H'
    try clear c1
    try clear c2
    try clear p2
    try clear c3
    try clear c3b0
    try clear c3b1
    try clear c3b2
    obtain ⟨x13_1, rfl, HA, HK1, ⟨m1, rfl⟩⟩ := hrel
    cases gk with
    | zero => exact absurd HA.out (by simp [laws_ySame.l0])
    | succ k1 =>
     have H := HA.out
     clear HA
     simp only [laws_ySame.l0] at H
     by_cases c4 : x13_1 < (l0.length : Int)
     · rw [if_pos c4] at H
       have c4b0 : decide (x13_1 < (l0.length : Int)) = true := decide_eq_true c4
       clear c4
       by_cases c5 : 0 ≤ x13_1
       · rw [if_pos c5] at H
         have c5b0 : decide (0 ≤ x13_1) = true := decide_eq_true c5
         clear c5
         by_cases c6 : x13_1 < (l0.length : Int)
         · rw [if_pos c6] at H
           have c6b0 : decide (x13_1 < (l0.length : Int)) = true := decide_eq_true c6
           clear c6
           by_cases c7 : x13_1 < (l1.length : Int)
           · rw [if_pos c7] at H
             have c7b0 : decide (x13_1 < (l1.length : Int)) = true := decide_eq_true c7
             clear c7
             by_cases c8 : (rd l0 x13_1) = (rd l1 x13_1)
             · rw [if_pos c8] at H
               have c8b0 : ((rd l0 x13_1) == (rd l1 x13_1)) = true := beq_iff_eq.mpr c8
               have c8b1 : ((rd l0 x13_1) != (rd l1 x13_1)) = false := bne_eq_false_iff_eq.mpr c8
               clear c8
               have H' := Aside0.mk H
               clear H
               have p313 : 0 ≤ (x13_1 : Int) := of_decide_eq_true (by first | (with_reducible assumption) | assumption)
               have q313 : x13_1 < (l0.length : Int) := of_decide_eq_true (by first | (with_reducible assumption) | assumption)
               obtain ⟨ad313, e313, hx313_0⟩ := Kd.at_int HR0.out x13_1 p313 q313
               cases e313
               replace p313 := eq_true p313
               replace q313 := eq_true q313
               have p314 : 0 ≤ (x13_1 : Int) := of_decide_eq_true (by first | (with_reducible assumption) | assumption)
               have q314 : x13_1 < (l1.length : Int) := of_decide_eq_true (by first | (with_reducible assumption) | assumption)
               obtain ⟨ad314, e314, hx314_0⟩ := Kd.at_int HR1.out x13_1 p314 q314
               cases e314
               replace p314 := eq_true p314
               replace q314 := eq_true q314
               go_wp2
               repeat (go_quiet (fail); try go_wp2)
               go_roundg k1
               case measure => have := HK1.out; omega
               case rel => exact ⟨(wrap64 (x13_1 + 1)), (by first | rfl | (simp; done) | (simp [*]; done)), H', ⟨by have := HK1.out; omega⟩, by repeat (first | exact Drawn0.refl _ | apply Drawn0.step)⟩
             · rw [if_neg c8] at H
               have c8b0 : ((rd l0 x13_1) == (rd l1 x13_1)) = false := beq_eq_false_iff_ne.mpr c8
               have c8b1 : ((rd l0 x13_1) != (rd l1 x13_1)) = true := bne_iff_ne.mpr c8
               obtain rfl := Option.some.inj H
               have p313 : 0 ≤ (x13_1 : Int) := of_decide_eq_true (by first | (with_reducible assumption) | assumption)
               have q313 : x13_1 < (l0.length : Int) := of_decide_eq_true (by first | (with_reducible assumption) | assumption)
               obtain ⟨ad313, e313, hx313_0⟩ := Kd.at_int HR0.out x13_1 p313 q313
               cases e313
               replace p313 := eq_true p313
               replace q313 := eq_true q313
               have p314 : 0 ≤ (x13_1 : Int) := of_decide_eq_true (by first | (with_reducible assumption) | assumption)
               have q314 : x13_1 < (l1.length : Int) := of_decide_eq_true (by first | (with_reducible assumption) | assumption)
               obtain ⟨ad314, e314, hx314_0⟩ := Kd.at_int HR1.out x13_1 p314 q314
               cases e314
               replace p314 := eq_true p314
               replace q314 := eq_true q314
               go_wp2
               repeat (go_quiet (fail); try go_wp2)
               go_ret
               exact ⟨by first | rfl | (simp; done) | (simp [*]; done), by repeat (first | exact Drawn0.refl _ | apply Drawn0.step)⟩
           · rw [if_neg c7] at H
             exact absurd H (by simp)
         · rw [if_neg c6] at H
           exact absurd H (by simp)
       · rw [if_neg c5] at H
         exact absurd H (by simp)
     · rw [if_neg c4] at H
       have c4b0 : decide (x13_1 < (l0.length : Int)) = false := decide_eq_false c4
       clear c4
       obtain rfl := Option.some.inj H
       go_wp2
       repeat (go_quiet (fail); try go_wp2)
       go_ret
       exact ⟨by first | rfl | (simp; done) | (simp [*]; done), by repeat (first | exact Drawn0.refl _ | apply Drawn0.step)⟩
 · rw [if_neg c3] at H
   have c3b0 : ((l0.length : Int) == (l1.length : Int)) = false := beq_eq_false_iff_ne.mpr c3
   have c3b1 : ((l0.length : Int) != (l1.length : Int)) = true := bne_iff_ne.mpr c3
   have c3b2 : (l0.length == l1.length) = false := by first | simpa using c3 | (simp at c3 ⊢; omega)
   obtain rfl := Option.some.inj H
   go_enter Tryd.func20, Tryd.ntmps20
   go_wp2
   repeat (go_quiet (fail); try go_wp2)
   go_ret
   exact ⟨by first | rfl | (simp; done) | (simp [*]; done), by repeat (first | exact Drawn0.refl _ | apply Drawn0.step)⟩

end Go.Proofs.YtgcgecbdmomceaaDoor.A

-- made by a program of this repo (wip/pp.py) through the kit's printer
namespace Go.Proofs.YtgcgecbdmomceaaDoor.A
open Go.RowKit Go.Proofs.YtgcgecbdmomceaaDoorW.PrintWords Go.Proofs.YtgcgecbdmomceaaDoorW.PrintLast Go.Proofs.YtgcgecbdmomceaaDoorW.PrintMore
attribute [local go_sem] max2_int min2_int max_two min_two max_three min_three max_four min_four
set_option linter.unusedVariables false
set_option linter.unusedSimpArgs false

/-! ### impl_within: function 41 -/
def impl_within.f (a0 : Int) (a1 : Int) (a2 : Int) : Option (Bool) := if a0 ≥ a1 then (some (decide (a0 ≤ a2))) else (some false)
set_option maxHeartbeats 8000000 in
set_option maxRecDepth 100000 in
theorem impl_within.calls (a0 : Int) (a1 : Int) (a2 : Int) (r : Bool) (w : World) (h : impl_within.f a0 a1 a2 = some r) :
 Calls Tryd.prog 41 #[.int .i64 a0, .int .i64 a1, .int .i64 a2] w fun e w' => e = .returned (.bool r) ∧ Drawn0 w w' := by
 have H : (if a0 ≥ a1 then (some (decide (a0 ≤ a2))) else (some false)) = some r := h
 clear h
 by_cases c4 : a0 ≥ a1
 · rw [if_pos c4] at H
   have c4b0 : decide (a1 ≤ a0) = true := decide_eq_true c4
   clear c4
   obtain rfl := Option.some.inj H
   go_enter Tryd.func41, Tryd.ntmps41
   go_wp2
   go_ret
   exact ⟨by first | rfl | (simp; done) | (simp [*]; done), by repeat (first | exact Drawn0.refl _ | apply Drawn0.step)⟩
 · rw [if_neg c4] at H
   have c4b0 : decide (a1 ≤ a0) = false := decide_eq_false c4
   clear c4
   obtain rfl := Option.some.inj H
   go_enter Tryd.func41, Tryd.ntmps41
   go_wp2
   go_ret
   exact ⟨by first | rfl | (simp; done) | (simp [*]; done), by repeat (first | exact Drawn0.refl _ | apply Drawn0.step)⟩

end Go.Proofs.YtgcgecbdmomceaaDoor.A

-- made by a program of this repo (wip/pp.py) through the kit's printer
namespace Go.Proofs.YtgcgecbdmomceaaDoor.A
open Go.RowKit Go.Proofs.YtgcgecbdmomceaaDoorW.PrintWords Go.Proofs.YtgcgecbdmomceaaDoorW.PrintLast Go.Proofs.YtgcgecbdmomceaaDoorW.PrintMore
attribute [local go_sem] max2_int min2_int max_two min_two max_three min_three max_four min_four
set_option linter.unusedVariables false
set_option linter.unusedSimpArgs false

/-! ### slices_Index_int_int: function 65 -/
def slices_Index_int_int.l0 : Nat → List Int → Int → Int → Int → Option (Int)
 | 0, _, _, _, _ => none
 | k + 1, x0, x1, x7, x8 => if x8 < x7 then (if 0 ≤ x8 then (if x8 < (x0.length : Int) then (if x1 = (rd x0 x8) then (some x8) else (slices_Index_int_int.l0 k x0 x1 x7 (wrap64 (x8 + 1)))) else (none)) else (none)) else (some (-1))
def slices_Index_int_int.f (k : Nat) (l0 : List Int) (a1 : Int) : Option (Int) := slices_Index_int_int.l0 k l0 a1 (l0.length : Int) 0
set_option maxHeartbeats 8000000 in
set_option maxRecDepth 100000 in
theorem slices_Index_int_int.calls (k : Nat) (A0 : Option Addr) (c0 : Nat) (l0 : List Int) (a1 : Int) (r : Int) (w : World) (hr0 : Kd.C (Kd.int .i64) w A0 l0.length l0) (hc0 : l0.length ≤ c0) (h : slices_Index_int_int.f k l0 a1 = some r) :
 Calls Tryd.prog 65 #[.slice A0 l0.length c0, .int .i64 a1] w fun e w' => e = .returned (.int .i64 r) ∧ Drawn0 w w' := by
 have HR0 := Aside0.mk hr0
 have HC0 := Aside0.mk hc0
 clear hr0 hc0
 have H : (slices_Index_int_int.l0 k l0 a1 (l0.length : Int) 0) = some r := h
 clear h
 have H' := Aside0.mk H
 clear H
 go_enter Tryd.func65, Tryd.ntmps65
 go_wp2
 go_loopg [8] k (fun kq v8 w' => ∃ (x8_1 : Int), v8 = .int .i64 x8_1 ∧ Aside0 (slices_Index_int_int.l0 kq l0 a1 (l0.length : Int) x8_1 = some r) ∧ Aside0 (kq ≤ k) ∧ Drawn0 w w')
 case atStart => exact ⟨(0), (by first | rfl | (simp; done) | (simp [*]; done)), H', ⟨Nat.le_refl _⟩, by repeat (first | exact Drawn0.refl _ | apply Drawn0.step)⟩
 case round =>
  clear H'
  try clear p2
  obtain ⟨x8_1, rfl, HA, HK1, ⟨m1, rfl⟩⟩ := hrel
  cases gk with
  | zero => exact absurd HA.out (by simp [slices_Index_int_int.l0])
  | succ k1 =>
   have H := HA.out
   clear HA
   simp only [slices_Index_int_int.l0] at H
   by_cases c3 : x8_1 < (l0.length : Int)
   · rw [if_pos c3] at H
     have c3b0 : decide (x8_1 < (l0.length : Int)) = true := decide_eq_true c3
     clear c3
     by_cases c4 : 0 ≤ x8_1
     · rw [if_pos c4] at H
       have c4b0 : decide (0 ≤ x8_1) = true := decide_eq_true c4
       clear c4
       by_cases c5 : x8_1 < (l0.length : Int)
       · rw [if_pos c5] at H
         have c5b0 : decide (x8_1 < (l0.length : Int)) = true := decide_eq_true c5
         clear c5
         by_cases c6 : a1 = (rd l0 x8_1)
         · rw [if_pos c6] at H
           have c6b0 : (a1 == (rd l0 x8_1)) = true := beq_iff_eq.mpr c6
           have c6b1 : (a1 != (rd l0 x8_1)) = false := bne_eq_false_iff_eq.mpr c6
           clear c6
           obtain rfl := Option.some.inj H
           have p315 : 0 ≤ (x8_1 : Int) := of_decide_eq_true (by first | (with_reducible assumption) | assumption)
           have q315 : x8_1 < (l0.length : Int) := of_decide_eq_true (by first | (with_reducible assumption) | assumption)
           obtain ⟨ad315, e315, hx315_0⟩ := Kd.at_int HR0.out x8_1 p315 q315
           cases e315
           replace p315 := eq_true p315
           replace q315 := eq_true q315
           go_wp2
           go_ret
           exact ⟨by first | rfl | (simp; done) | (simp [*]; done), by repeat (first | exact Drawn0.refl _ | apply Drawn0.step)⟩
         · rw [if_neg c6] at H
           have c6b0 : (a1 == (rd l0 x8_1)) = false := beq_eq_false_iff_ne.mpr c6
           have c6b1 : (a1 != (rd l0 x8_1)) = true := bne_iff_ne.mpr c6
           have H' := Aside0.mk H
           clear H
           have p315 : 0 ≤ (x8_1 : Int) := of_decide_eq_true (by first | (with_reducible assumption) | assumption)
           have q315 : x8_1 < (l0.length : Int) := of_decide_eq_true (by first | (with_reducible assumption) | assumption)
           obtain ⟨ad315, e315, hx315_0⟩ := Kd.at_int HR0.out x8_1 p315 q315
           cases e315
           replace p315 := eq_true p315
           replace q315 := eq_true q315
           go_wp2
           go_roundg k1
           case measure => have := HK1.out; omega
           case rel => exact ⟨(wrap64 (x8_1 + 1)), (by first | rfl | (simp; done) | (simp [*]; done)), H', ⟨by have := HK1.out; omega⟩, by repeat (first | exact Drawn0.refl _ | apply Drawn0.step)⟩
       · rw [if_neg c5] at H
         exact absurd H (by simp)
     · rw [if_neg c4] at H
       exact absurd H (by simp)
   · rw [if_neg c3] at H
     have c3b0 : decide (x8_1 < (l0.length : Int)) = false := decide_eq_false c3
     clear c3
     obtain rfl := Option.some.inj H
     go_wp2
     go_ret
     exact ⟨by first | rfl | (simp; done) | (simp [*]; done), by repeat (first | exact Drawn0.refl _ | apply Drawn0.step)⟩

end Go.Proofs.YtgcgecbdmomceaaDoor.A

-- made by a program of this repo (wip/pp.py) through the kit's printer
namespace Go.Proofs.YtgcgecbdmomceaaDoor.A
open Go.RowKit Go.Proofs.YtgcgecbdmomceaaDoorW.PrintWords Go.Proofs.YtgcgecbdmomceaaDoorW.PrintLast Go.Proofs.YtgcgecbdmomceaaDoorW.PrintMore
attribute [local go_sem] max2_int min2_int max_two min_two max_three min_three max_four min_four
set_option linter.unusedVariables false
set_option linter.unusedSimpArgs false

/-! ### slices_Contains_int_int: function 45 -/
def slices_Contains_int_int.f (k : Nat) (l0 : List Int) (a1 : Int) : Option (Bool) := (slices_Index_int_int.f k l0 a1).bind fun t316 => (some (decide (t316 ≥ 0)))
set_option maxHeartbeats 8000000 in
set_option maxRecDepth 100000 in
theorem slices_Contains_int_int.calls (k : Nat) (A0 : Option Addr) (c0 : Nat) (l0 : List Int) (a1 : Int) (r : Bool) (w : World) (hr0 : Kd.C (Kd.int .i64) w A0 l0.length l0) (hc0 : l0.length ≤ c0) (h : slices_Contains_int_int.f k l0 a1 = some r) :
 Calls Tryd.prog 45 #[.slice A0 l0.length c0, .int .i64 a1] w fun e w' => e = .returned (.bool r) ∧ Drawn0 w w' := by
 have HR0 := Aside0.mk hr0
 have HC0 := Aside0.mk hc0
 clear hr0 hc0
 have H : ((slices_Index_int_int.f k l0 a1).bind fun t316 => (some (decide (t316 ≥ 0)))) = some r := h
 clear h
 replace H := Option.bind_eq_some_iff.mp H
 obtain ⟨t316, A30, H⟩ := H
 replace H : (some (decide (t316 ≥ 0))) = some r := H
 have A3 := Aside0.mk A30
 clear A30
 obtain rfl := Option.some.inj H
 go_enter Tryd.func45, Tryd.ntmps45
 go_wp2_with (first | ((with_reducible refine gate_callee (f := 65) rfl ?_); refine goesL_ (some 7) rfl rfl Tryd.func65 (by kernel_rfl) rfl #[.slice A0 l0.length c0, .int .i64 a1] rfl (by (try simp only [List.map_toArray, List.map_cons, List.map_nil]); first | done | rfl | (simp only [List.length_drop, List.length_take]; rfl)) ?_; (with_reducible refine (slices_Index_int_int.calls k _ _ l0 a1 t316 _ ?side1 ?side2 A3.out).mono ?_); (case side1 => repeat (first | exact HR0.out | (with_reducible refine Kd.C_alloc ?_ _) | (with_reducible refine Kd.C_drewN ?_ _) | (with_reducible refine Kd.C_drew ?_))); (case side2 => exact HC0.out); rintro e w' ⟨rfl, ⟨nd, rfl⟩⟩; refine ⟨_, rfl, ?_⟩))
 go_ret
 exact ⟨by first | rfl | (simp; done) | (simp [*]; done), by repeat (first | exact Drawn0.refl _ | apply Drawn0.step)⟩

end Go.Proofs.YtgcgecbdmomceaaDoor.A

-- made by a program of this repo (wip/pp.py) through the kit's printer
namespace Go.Proofs.YtgcgecbdmomceaaDoor.A
open Go.RowKit Go.Proofs.YtgcgecbdmomceaaDoorW.PrintWords Go.Proofs.YtgcgecbdmomceaaDoorW.PrintLast Go.Proofs.YtgcgecbdmomceaaDoorW.PrintMore
attribute [local go_sem] max2_int min2_int max_two min_two max_three min_three max_four min_four
set_option linter.unusedVariables false
set_option linter.unusedSimpArgs false

/-! ### impl_IsPlacing: function 22 -/
def impl_IsPlacing.l0 : Nat → List Int → Int → Int → Option (Bool)
 | 0, _, _, _ => none
 | k + 1, x0, x5, x6 => if x6 < x5 then ((slices_Contains_int_int.f k x0 x6).bind fun t317 => (if t317 = true then (impl_IsPlacing.l0 k x0 x5 (wrap64 (x6 + 1))) else (some false))) else ((impl_within.f (x0.length : Int) 1 6).bind fun t318 => (some t318))
def impl_IsPlacing.f (k : Nat) (l0 : List Int) : Option (Bool) := impl_IsPlacing.l0 k l0 (l0.length : Int) 0
set_option maxHeartbeats 8000000 in
set_option maxRecDepth 100000 in
theorem impl_IsPlacing.calls (k : Nat) (A0 : Option Addr) (c0 : Nat) (l0 : List Int) (r : Bool) (w : World) (hr0 : Kd.C (Kd.int .i64) w A0 l0.length l0) (hc0 : l0.length ≤ c0) (h : impl_IsPlacing.f k l0 = some r) :
 Calls Tryd.prog 22 #[.slice A0 l0.length c0] w fun e w' => e = .returned (.bool r) ∧ Drawn0 w w' := by
 have HR0 := Aside0.mk hr0
 have HC0 := Aside0.mk hc0
 clear hr0 hc0
 have H : (impl_IsPlacing.l0 k l0 (l0.length : Int) 0) = some r := h
 clear h
 have H' := Aside0.mk H
 clear H
 go_enter Tryd.func22, Tryd.ntmps22
 go_wp2
 go_loopg [6] k (fun kq v6 w' => ∃ (x6_1 : Int), v6 = .int .i64 x6_1 ∧ Aside0 (impl_IsPlacing.l0 kq l0 (l0.length : Int) x6_1 = some r) ∧ Aside0 (kq ≤ k) ∧ Drawn0 w w')
 case atStart => exact ⟨(0), (by first | rfl | (simp; done) | (simp [*]; done)), H', ⟨Nat.le_refl _⟩, by repeat (first | exact Drawn0.refl _ | apply Drawn0.step)⟩
 case round =>
  clear H'
  obtain ⟨x6_1, rfl, HA, HK1, ⟨m1, rfl⟩⟩ := hrel
  cases gk with
  | zero => exact absurd HA.out (by simp [impl_IsPlacing.l0])
  | succ k1 =>
   have H := HA.out
   clear HA
   simp only [impl_IsPlacing.l0] at H
   by_cases c2 : x6_1 < (l0.length : Int)
   · rw [if_pos c2] at H
     have c2b0 : decide (x6_1 < (l0.length : Int)) = true := decide_eq_true c2
     clear c2
     replace H := Option.bind_eq_some_iff.mp H
     obtain ⟨t317, A30, H⟩ := H
     replace H : (if t317 = true then (impl_IsPlacing.l0 k1 l0 (l0.length : Int) (wrap64 (x6_1 + 1))) else (some false)) = some r := H
     have A3 := Aside0.mk A30
     clear A30
     by_cases c4 : t317 = true
     · subst c4
       have H1 : (impl_IsPlacing.l0 k1 l0 (l0.length : Int) (wrap64 (x6_1 + 1))) = some r := by rw [if_pos rfl] at H; exact H
       clear H
       have H := H1
       clear H1
       have H' := Aside0.mk H
       clear H
       go_wp2_with (first | ((with_reducible refine gate_callee (f := 45) rfl ?_); refine goesL_ (some 11) rfl rfl Tryd.func45 (by kernel_rfl) rfl #[.slice A0 l0.length c0, .int .i64 x6_1] rfl (by (try simp only [List.map_toArray, List.map_cons, List.map_nil]); first | done | rfl | (simp only [List.length_drop, List.length_take]; rfl)) ?_; (with_reducible refine (slices_Contains_int_int.calls k1 _ _ l0 x6_1 true _ ?side1 ?side2 A3.out).mono ?_); (case side1 => repeat (first | exact HR0.out | (with_reducible refine Kd.C_alloc ?_ _) | (with_reducible refine Kd.C_drewN ?_ _) | (with_reducible refine Kd.C_drew ?_))); (case side2 => exact HC0.out); rintro e w' ⟨rfl, ⟨nd, rfl⟩⟩; refine ⟨_, rfl, ?_⟩))
       go_roundg k1
       case measure => have := HK1.out; omega
       case rel => exact ⟨(wrap64 (x6_1 + 1)), (by first | rfl | (simp; done) | (simp [*]; done)), H', ⟨by have := HK1.out; omega⟩, by repeat (first | exact Drawn0.refl _ | apply Drawn0.step)⟩
     · replace c4 := Bool.eq_false_iff.mpr c4
       subst c4
       have H1 : (some false) = some r := by rw [if_neg (show ¬ (false = true) by decide)] at H; exact H
       clear H
       have H := H1
       clear H1
       obtain rfl := Option.some.inj H
       go_wp2_with (first | ((with_reducible refine gate_callee (f := 45) rfl ?_); refine goesL_ (some 11) rfl rfl Tryd.func45 (by kernel_rfl) rfl #[.slice A0 l0.length c0, .int .i64 x6_1] rfl (by (try simp only [List.map_toArray, List.map_cons, List.map_nil]); first | done | rfl | (simp only [List.length_drop, List.length_take]; rfl)) ?_; (with_reducible refine (slices_Contains_int_int.calls k1 _ _ l0 x6_1 false _ ?side1 ?side2 A3.out).mono ?_); (case side1 => repeat (first | exact HR0.out | (with_reducible refine Kd.C_alloc ?_ _) | (with_reducible refine Kd.C_drewN ?_ _) | (with_reducible refine Kd.C_drew ?_))); (case side2 => exact HC0.out); rintro e w' ⟨rfl, ⟨nd, rfl⟩⟩; refine ⟨_, rfl, ?_⟩))
       go_ret
       exact ⟨by first | rfl | (simp; done) | (simp [*]; done), by repeat (first | exact Drawn0.refl _ | apply Drawn0.step)⟩
   · rw [if_neg c2] at H
     have c2b0 : decide (x6_1 < (l0.length : Int)) = false := decide_eq_false c2
     clear c2
     replace H := Option.bind_eq_some_iff.mp H
     obtain ⟨t318, A50, H⟩ := H
     replace H : (some t318) = some r := H
     have A5 := Aside0.mk A50
     clear A50
     obtain rfl := Option.some.inj H
     go_wp2_with (first | ((with_reducible refine gate_callee (f := 41) rfl ?_); refine goesL_ (some 16) rfl rfl Tryd.func41 (by kernel_rfl) rfl #[.int .i64 (l0.length : Int), .int .i64 1, .int .i64 6] rfl (by (try simp only [List.map_toArray, List.map_cons, List.map_nil]); first | done | rfl | (simp only [List.length_drop, List.length_take]; rfl)) ?_; (with_reducible refine (impl_within.calls (l0.length : Int) 1 6 t318 _ A5.out).mono ?_); rintro e w' ⟨rfl, ⟨nd, rfl⟩⟩; refine ⟨_, rfl, ?_⟩))
     go_ret
     exact ⟨by first | rfl | (simp; done) | (simp [*]; done), by repeat (first | exact Drawn0.refl _ | apply Drawn0.step)⟩

end Go.Proofs.YtgcgecbdmomceaaDoor.A

-- made by a program of this repo (wip/pp.py) through the kit's printer
namespace Go.Proofs.YtgcgecbdmomceaaDoor.A
open Go.RowKit Go.Proofs.YtgcgecbdmomceaaDoorW.PrintWords Go.Proofs.YtgcgecbdmomceaaDoorW.PrintLast Go.Proofs.YtgcgecbdmomceaaDoorW.PrintMore
attribute [local go_sem] max2_int min2_int max_two min_two max_three min_three max_four min_four
set_option linter.unusedVariables false
set_option linter.unusedSimpArgs false

/-! ### spec_DrawIsPlacing: function 46 -/
def spec_DrawIsPlacing.f (k : Nat) (l0 : List Int) : Option (List Int) := (spec_l1Cur_among.f l0 0 0 (([0, 1, 2, 3, 4, 6, 7] : List Int))).bind fun bt323 => ((spec_l1Cur_placing.f k l0 bt323.2.1 bt323.2.2 bt323.1).bind fun bt326 => (some bt326.1))
set_option maxHeartbeats 8000000 in
set_option maxRecDepth 100000 in
theorem spec_DrawIsPlacing.calls (k : Nat) (A0 : Option Addr) (c0 : Nat) (l0 : List Int) (r : List Int) (w : World) (hr0 : Kd.C (Kd.int .u8) w A0 l0.length l0) (hc0 : l0.length ≤ c0) (h : spec_DrawIsPlacing.f k l0 = some r) :
 Calls Tryd.prog 46 #[.slice A0 l0.length c0] w fun e w' => ∃ v0_ : Value, e = .returned (v0_) ∧ Kd.R (Kd.int .i64) 3 w' w.heap.size (fun _ => True) v0_ r ∧ Below w.heap.size w w' := by
 have hu64 := Tryd.underlying64
 have HR0 := Aside0.mk hr0
 have HC0 := Aside0.mk hc0
 clear hr0 hc0
 have HB := Aside0.mk (Below.refl w.heap.size w)
 have H : ((spec_l1Cur_among.f l0 0 0 (([0, 1, 2, 3, 4, 6, 7] : List Int))).bind fun bt323 => ((spec_l1Cur_placing.f k l0 bt323.2.1 bt323.2.2 bt323.1).bind fun bt326 => (some bt326.1))) = some r := h
 clear h
 obtain ⟨y320, hy320⟩ : ∃ y_ : List Int, y_ = (([0, 1, 2, 3, 4, 6, 7] : List Int)) := ⟨_, rfl⟩
 replace H : ((spec_l1Cur_among.f l0 0 0 y320).bind fun bt323 => ((spec_l1Cur_placing.f k l0 bt323.2.1 bt323.2.2 bt323.1).bind fun bt326 => (some bt326.1))) = some r := by first | (rw [hy320]; with_reducible exact H) | (have H2_ := (Option.bind_some _ _).symm.trans H; rw [hy320]; with_reducible exact H2_) | (have H2_ := (Option.bind_some _ _).symm.trans H; with_reducible exact H2_) | with_reducible exact H | (rw [hy320]; exact H) | exact H
 have Ny320 := Aside0.mk hy320
 clear hy320
 replace H := Option.bind_eq_some_iff.mp H
 obtain ⟨⟨t323, t324, t325⟩, A20, H⟩ := H
 replace H : ((spec_l1Cur_placing.f k l0 t324 t325 t323).bind fun bt326 => (some bt326.1)) = some r := H
 have A2 := Aside0.mk A20
 clear A20
 replace H := Option.bind_eq_some_iff.mp H
 obtain ⟨⟨t326, t329, t330⟩, A30, H⟩ := H
 replace H : (some t326) = some r := H
 have A3 := Aside0.mk A30
 clear A30
 obtain rfl := Option.some.inj H
 go_enter Tryd.func46, Tryd.ntmps46
 go_wp2_with (first | ((with_reducible refine gate_dst (N := 6) rfl ?_); refine box_event ?hg (N := 6) ?hd (cs := #[.slice A0 l0.length c0, .int .i64 0, .int .u64 0]) (t := 64) ?hr ?_; (case hd => rfl); (case hg => rfl); (case hr => first | (go_simp; done) | (go_simp; rfl)); intro gb319 hg w4 hbox hb; have n0_ := Aside0.mk (below_step (by repeat (first | (with_reducible first | exact HB.out | apply below_alloc | apply pw_below_drewN | apply below_drew1) | exact HB.out)) hb); have n1_ := Aside0.mk ((show IsS64 w w4 gb319 l0 0 0 from ⟨_, _, hbox, (by rw [hg]; exact (below_size (by repeat (first | (with_reducible first | exact HB.out | apply below_alloc | apply pw_below_drewN | apply below_drew1) | exact HB.out)))), HR0.out⟩)); clear HB; have HB := n0_; have HI319 := n1_; clear n0_ n1_; clear hb hbox hg) | ((with_reducible refine gate_dst (N := 9) rfl ?_); refine Kd.R_lit (Kd.int .i64) _ 3 ?hg (N := 9) ?hd (xs := ([0, 1, 2, 3, 4, 6, 7] : List Int)) (inner := [.int .i64 0, .int .i64 1, .int .i64 2, .int .i64 3, .int .i64 4, .int .i64 6, .int .i64 7]) (ok := fun _ => True) (okp := fun _ => True) ?hr ?hp (fun _ hk => hk) trivial (Below.refl _ _) (Nat.le_refl _) (by simp) ?_; (case hd => rfl); (case hg => rfl); (case hr => first | (go_simp; done) | (go_simp; rfl)); (case hp => exact (Reps.one (show Kd.M (Kd.int .i64) _ _ _ 0 [.int .i64 0] from rfl) (Reps.one (show Kd.M (Kd.int .i64) _ _ _ 1 [.int .i64 1] from rfl) (Reps.one (show Kd.M (Kd.int .i64) _ _ _ 2 [.int .i64 2] from rfl) (Reps.one (show Kd.M (Kd.int .i64) _ _ _ 3 [.int .i64 3] from rfl) (Reps.one (show Kd.M (Kd.int .i64) _ _ _ 4 [.int .i64 4] from rfl) (Reps.one (show Kd.M (Kd.int .i64) _ _ _ 6 [.int .i64 6] from rfl) (Reps.one (show Kd.M (Kd.int .i64) _ _ _ 7 [.int .i64 7] from rfl) (Reps.none _ _))))))))); intro v321 w5 ho6 hb hg_ hnew_; clear hg_ hnew_; (first | rw [← Ny320.out] at ho6 | (simp only [Int.reduceToNat] at ho6; rw [← Ny320.out] at ho6)); have n0_ := Aside0.mk (Kd.R_lower ho6 (below_size (by repeat (first | (with_reducible first | exact HB.out | apply below_alloc | apply pw_below_drewN | apply below_drew1 | refine below_set ?_ (IsS64.ge HI319.out)) | exact HB.out)))); have n1_ := Aside0.mk (IsS64.below (by repeat (first | (with_reducible first | exact HI319.out | apply IsS64.alloc | apply IsS64.drewN | apply IsS64.drew | apply IsS64.set_1 | apply IsS64.set_2) | exact HI319.out)) hb); have n2_ := Aside0.mk (below_step (by repeat (first | (with_reducible first | exact HB.out | apply below_alloc | apply pw_below_drewN | apply below_drew1 | refine below_set ?_ (IsS64.ge HI319.out)) | exact HB.out)) hb); clear HI319; clear HB; have HO322 := n0_; have HI319 := n1_; have HB := n2_; clear n0_ n1_ n2_; clear hb ho6; obtain ⟨Ao7, co7, eo7⟩ := Kd.R_slice HO322.out; subst eo7) | ((with_reducible refine gate_callee (f := 67) rfl ?_); refine goesL_ (some 10) rfl rfl Tryd.func67 (by kernel_rfl) rfl #[.pointer (some ⟨gb319, 0, none⟩), .slice Ao7 y320.length co7] rfl (by (try simp only [List.map_toArray, List.map_cons, List.map_nil]); first | done | rfl | (simp only [List.length_drop, List.length_take]; rfl)) ?_; (with_reducible refine (spec_l1Cur_among.calls gb319 l0 0 0 _ _ y320 t323 t324 t325 w _ ?side1 ?side2 ?side3 ?side4 ?side5 A2.out).mono ?_); (case side1 => repeat (first | (with_reducible first | exact HI319.out | apply IsS64.alloc | apply IsS64.drewN | apply IsS64.drew | apply IsS64.set_1 | apply IsS64.set_2) | exact HI319.out)); (case side2 => repeat (first | (with_reducible first | exact HB.out | apply below_alloc | apply pw_below_drewN | apply below_drew1 | refine below_set ?_ (IsS64.ge HI319.out)) | exact HB.out)); (case side3 => repeat (first | exact (Kd.R_reads' HO322.out).2.2 | (with_reducible refine Kd.C_alloc ?_ _) | (with_reducible refine Kd.C_drewN ?_ _) | (with_reducible refine Kd.C_drew ?_))); (case side4 => exact (Kd.R_reads' HO322.out).2.1); (case side5 => exact far_slice (IsS64.own_ne HI319.out HO322.out (by decide))); rintro e w8 ⟨rfl, hi, hb, hk⟩; refine ⟨_, rfl, ?_⟩; have n0_ := Aside0.mk (Kd.R_mono (Kd.R_keep (IsS64.apart (show IsS64 w _ gb319 l0 0 0 from by repeat (first | (with_reducible first | exact HI319.out | apply IsS64.alloc | apply IsS64.drewN | apply IsS64.drew | apply IsS64.set_1 | apply IsS64.set_2) | exact HI319.out)) (by (with_reducible repeat (first | apply Kd.R_alloc | apply Kd.R_drewN | apply Kd.R_drew)); exact HO322.out) (by decide)) hk (fun _ h => h.2)) (fun _ h => h.1)); have n1_ := Aside0.mk (hb); have n2_ := Aside0.mk (hi); clear HO322; clear HB; clear HI319; have HO322 := n0_; have HB := n1_; have HI319 := n2_; clear n0_ n1_ n2_; (try clear hb); (try clear hb2); (try clear hk); (try clear hi)) | ((with_reducible refine gate_callee (f := 66) rfl ?_); refine goesL_ (some 11) rfl rfl Tryd.func66 (by kernel_rfl) rfl #[.pointer (some ⟨gb319, 0, none⟩), .int .i64 t323] rfl (by (try simp only [List.map_toArray, List.map_cons, List.map_nil]); first | done | rfl | (simp only [List.length_drop, List.length_take]; rfl)) ?_; (with_reducible refine (spec_l1Cur_placing.calls k gb319 l0 t324 t325 t323 t326 t329 t330 w _ ?side1 ?side2 A3.out).mono ?_); (case side1 => repeat (first | (with_reducible first | exact HI319.out | apply IsS64.alloc | apply IsS64.drewN | apply IsS64.drew | apply IsS64.set_1 | apply IsS64.set_2) | exact HI319.out)); (case side2 => repeat (first | (with_reducible first | exact HB.out | apply below_alloc | apply pw_below_drewN | apply below_drew1 | refine below_set ?_ (IsS64.ge HI319.out)) | exact HB.out)); rintro e w9 ⟨v327, rfl, ho0, hi, hb, hk⟩; refine ⟨_, rfl, ?_⟩; have n0_ := Aside0.mk (Kd.R_mono (Kd.R_told (Kd.R_oldK (IsS64.apart (show IsS64 w _ gb319 l0 t324 t325 from by repeat (first | (with_reducible first | exact HI319.out | apply IsS64.alloc | apply IsS64.drewN | apply IsS64.drew | apply IsS64.set_1 | apply IsS64.set_2) | exact HI319.out)) (by (with_reducible repeat (first | apply Kd.R_alloc | apply Kd.R_drewN | apply Kd.R_drew)); exact HO322.out) (by decide)) hk) (Kd.R_base ho0)) (fun _ h_ => h_.1)); have n1_ := Aside0.mk (Kd.R_lower (Kd.R_new' ho0 (Kd.R_lt (by (with_reducible repeat (first | apply Kd.R_alloc | apply Kd.R_drewN | apply Kd.R_drew)); exact HO322.out))) (below_size (by repeat (first | (with_reducible first | exact HB.out | apply below_alloc | apply pw_below_drewN | apply below_drew1 | refine below_set ?_ (IsS64.ge HI319.out)) | exact HB.out)))); have n2_ := Aside0.mk (hb); have n3_ := Aside0.mk (hi); clear HO322; clear HB; clear HI319; have HO322 := n0_; have HO328 := n1_; have HB := n2_; have HI319 := n3_; clear n0_ n1_ n2_ n3_; (try clear hb); (try clear hb2); (try clear hk); (try clear hi); (try clear ho0)))
 go_ret
 exact ⟨_, by first | rfl | (simp [errW_none, errW_some] <;> rfl) | (simp [*, errW_none, errW_some] <;> rfl), by (with_reducible repeat (first | apply Kd.R_alloc | apply Kd.R_drewN | apply Kd.R_drew)); exact Kd.R_mono HO328.out (fun _ hk => trivial), by repeat (first | (with_reducible first | exact HB.out | apply below_alloc | apply pw_below_drewN | apply below_drew1 | refine below_set ?_ (IsS64.ge HI319.out)) | exact HB.out)⟩

end Go.Proofs.YtgcgecbdmomceaaDoor.A

-- made by a program of this repo (wip/pp.py) through the kit's printer
namespace Go.Proofs.YtgcgecbdmomceaaDoor.A
open Go.RowKit Go.Proofs.YtgcgecbdmomceaaDoorW.PrintWords Go.Proofs.YtgcgecbdmomceaaDoorW.PrintLast Go.Proofs.YtgcgecbdmomceaaDoorW.PrintMore
attribute [local go_sem] max2_int min2_int max_two min_two max_three min_three max_four min_four
set_option linter.unusedVariables false
set_option linter.unusedSimpArgs false

/-! ### spec_DrawPlacingTable: function 23 -/
def spec_DrawPlacingTable.f (k : Nat) (l0 : List Int) : Option (List Int) := (spec_DrawIsPlacing.f k l0).bind fun t331 => (some t331)
set_option maxHeartbeats 8000000 in
set_option maxRecDepth 100000 in
theorem spec_DrawPlacingTable.calls (k : Nat) (A0 : Option Addr) (c0 : Nat) (l0 : List Int) (r : List Int) (w : World) (hr0 : Kd.C (Kd.int .u8) w A0 l0.length l0) (hc0 : l0.length ≤ c0) (h : spec_DrawPlacingTable.f k l0 = some r) :
 Calls Tryd.prog 23 #[.slice A0 l0.length c0] w fun e w' => ∃ v0_ : Value, e = .returned (v0_) ∧ Kd.R (Kd.int .i64) 3 w' w.heap.size (fun _ => True) v0_ r ∧ Below w.heap.size w w' := by
 have HR0 := Aside0.mk hr0
 have HC0 := Aside0.mk hc0
 clear hr0 hc0
 have HB := Aside0.mk (Below.refl w.heap.size w)
 have H : ((spec_DrawIsPlacing.f k l0).bind fun t331 => (some t331)) = some r := h
 clear h
 replace H := Option.bind_eq_some_iff.mp H
 obtain ⟨t331, A20, H⟩ := H
 replace H : (some t331) = some r := H
 have A2 := Aside0.mk A20
 clear A20
 obtain rfl := Option.some.inj H
 go_enter Tryd.func23, Tryd.ntmps23
 go_wp2_with (first | ((with_reducible refine gate_callee (f := 46) rfl ?_); refine goesL_ (some 4) rfl rfl Tryd.func46 (by kernel_rfl) rfl #[.slice A0 l0.length c0] rfl (by (try simp only [List.map_toArray, List.map_cons, List.map_nil]); first | done | rfl | (simp only [List.length_drop, List.length_take]; rfl)) ?_; (with_reducible refine (spec_DrawIsPlacing.calls k _ _ l0 t331 _ ?side1 ?side2 A2.out).mono ?_); (case side1 => repeat (first | exact HR0.out | (with_reducible refine Kd.C_alloc ?_ _) | (with_reducible refine Kd.C_drewN ?_ _) | (with_reducible refine Kd.C_drew ?_))); (case side2 => exact HC0.out); rintro e w3 ⟨v332, rfl, ho0, hb⟩; refine ⟨_, rfl, ?_⟩; have n0_ := Aside0.mk (Kd.R_lower ho0 (below_size (by repeat (first | (with_reducible first | exact HB.out | apply below_alloc | apply pw_below_drewN | apply below_drew1) | exact HB.out)))); have n1_ := Aside0.mk (below_step (by repeat (first | (with_reducible first | exact HB.out | apply below_alloc | apply pw_below_drewN | apply below_drew1) | exact HB.out)) hb); clear HB; have HO333 := n0_; have HB := n1_; clear n0_ n1_; (try clear hb); (try clear hb2); (try clear hk); (try clear hi); (try clear ho0)))
 go_ret
 exact ⟨_, by first | rfl | (simp [errW_none, errW_some] <;> rfl) | (simp [*, errW_none, errW_some] <;> rfl), by (with_reducible repeat (first | apply Kd.R_alloc | apply Kd.R_drewN | apply Kd.R_drew)); exact HO333.out, by repeat (first | (with_reducible first | exact HB.out | apply below_alloc | apply pw_below_drewN | apply below_drew1) | exact HB.out)⟩

end Go.Proofs.YtgcgecbdmomceaaDoor.A

-- made by a program of this repo (wip/pp.py) through the kit's printer
namespace Go.Proofs.YtgcgecbdmomceaaDoor.A
open Go.RowKit Go.Proofs.YtgcgecbdmomceaaDoorW.PrintWords Go.Proofs.YtgcgecbdmomceaaDoorW.PrintLast Go.Proofs.YtgcgecbdmomceaaDoorW.PrintMore
attribute [local go_sem] max2_int min2_int max_two min_two max_three min_three max_four min_four
set_option linter.unusedVariables false
set_option linter.unusedSimpArgs false

/-! ### spec_PlacingTable: function 25 -/
def spec_PlacingTable.l0 : Nat → List (List Int) → List Int → Int → Int → Option ((List (List Int)) × Bool)
 | 0, _, _, _, _ => none
 | k + 1, x4, x13, x14, x15 => if x15 < x14 then (if 0 ≤ x15 then (if x15 < (x13.length : Int) then (if x15 < (x4.length : Int) then (if 0 ≤ (rd x13 x15) then (if (rd x13 x15) < ((rd_L1 x4 x15).length : Int) then (spec_PlacingTable.l0 k (x4.set (x15 : Int).toNat ((rd_L1 x4 x15).set ((rd x13 x15) : Int).toNat 1)) x13 x14 (wrap64 (x15 + 1))) else (none)) else (none)) else (none)) else (none)) else (none)) else (some (x4, true))
def spec_PlacingTable.f (k : Nat) (l0 : List Int) : Option ((List (List Int)) × Bool) := (spec_doPlacing.f k l0).bind fun t334 => (if t334 = true then ((spec_doEmpty.f k (l0.length : Int)).bind fun t335 => (spec_PlacingTable.l0 k t335 l0 (l0.length : Int) 0)) else (some (([] : List (List Int)), false)))
set_option maxHeartbeats 8000000 in
set_option maxRecDepth 100000 in
theorem spec_PlacingTable.calls (k : Nat) (A0 : Option Addr) (c0 : Nat) (l0 : List Int) (r1 : List (List Int)) (r2 : Bool) (w : World) (hr0 : Kd.C (Kd.int .i64) w A0 l0.length l0) (hc0 : l0.length ≤ c0) (h : spec_PlacingTable.f k l0 = some (r1, r2)) :
 Calls Tryd.prog 25 #[.slice A0 l0.length c0] w fun e w' => ∃ v0_ : Value, e = .returned (.tuple #[v0_, .bool r2]) ∧ Kd.S (Kd.slice 3 (Kd.int .i64)) 24 w' w.heap.size (fun _ => True) v0_ r1 ∧ Below w.heap.size w w' := by
 have HR0 := Aside0.mk hr0
 have HC0 := Aside0.mk hc0
 clear hr0 hc0
 have HB := Aside0.mk (Below.refl w.heap.size w)
 have H : ((spec_doPlacing.f k l0).bind fun t334 => (if t334 = true then ((spec_doEmpty.f k (l0.length : Int)).bind fun t335 => (spec_PlacingTable.l0 k t335 l0 (l0.length : Int) 0)) else (some (([] : List (List Int)), false)))) = some (r1, r2) := h
 clear h
 replace H := Option.bind_eq_some_iff.mp H
 obtain ⟨t334, A20, H⟩ := H
 replace H : (if t334 = true then ((spec_doEmpty.f k (l0.length : Int)).bind fun t335 => (spec_PlacingTable.l0 k t335 l0 (l0.length : Int) 0)) else (some (([] : List (List Int)), false))) = some (r1, r2) := H
 have A2 := Aside0.mk A20
 clear A20
 by_cases c3 : t334 = true
 · subst c3
   have H1 : ((spec_doEmpty.f k (l0.length : Int)).bind fun t335 => (spec_PlacingTable.l0 k t335 l0 (l0.length : Int) 0)) = some (r1, r2) := by rw [if_pos rfl] at H; exact H
   clear H
   have H := H1
   clear H1
   replace H := Option.bind_eq_some_iff.mp H
   obtain ⟨t335, A40, H⟩ := H
   replace H : (spec_PlacingTable.l0 k t335 l0 (l0.length : Int) 0) = some (r1, r2) := H
   have A4 := Aside0.mk A40
   clear A40
   have H' := Aside0.mk H
   clear H
   go_enter Tryd.func25, Tryd.ntmps25
   go_wp2_with (first | ((with_reducible refine gate_callee (f := 49) rfl ?_); refine goesL_ (some 8) rfl rfl Tryd.func49 (by kernel_rfl) rfl #[.slice A0 l0.length c0] rfl (by (try simp only [List.map_toArray, List.map_cons, List.map_nil]); first | done | rfl | (simp only [List.length_drop, List.length_take]; rfl)) ?_; (with_reducible refine (spec_doPlacing.calls k _ _ l0 true _ ?side1 ?side2 A2.out).mono ?_); (case side1 => repeat (first | exact HR0.out | (with_reducible refine Kd.C_alloc ?_ _) | (with_reducible refine Kd.C_drewN ?_ _) | (with_reducible refine Kd.C_drew ?_))); (case side2 => exact HC0.out); rintro e w' ⟨rfl, ⟨nd, rfl⟩⟩; refine ⟨_, rfl, ?_⟩) | ((with_reducible refine gate_callee (f := 50) rfl ?_); refine goesL_ (some 12) rfl rfl Tryd.func50 (by kernel_rfl) rfl #[.int .i64 (l0.length : Int)] rfl (by (try simp only [List.map_toArray, List.map_cons, List.map_nil]); first | done | rfl | (simp only [List.length_drop, List.length_take]; rfl)) ?_; (with_reducible refine (spec_doEmpty.calls k (l0.length : Int) t335 _ A4.out).mono ?_); rintro e w5 ⟨v336, rfl, ho0, hb⟩; refine ⟨_, rfl, ?_⟩; have n0_ := Aside0.mk (Kd.S_lower ho0 (below_size (by repeat (first | (with_reducible first | exact HB.out | apply below_alloc | apply pw_below_drewN | apply below_drew1) | exact HB.out)))); have n1_ := Aside0.mk (below_step (by repeat (first | (with_reducible first | exact HB.out | apply below_alloc | apply pw_below_drewN | apply below_drew1) | exact HB.out)) hb); clear HB; have HO337 := n0_; have HB := n1_; clear n0_ n1_; (try clear hb); (try clear hb2); (try clear hk); (try clear hi); (try clear ho0)))
   go_loopg [15] k (fun kq v15 w' => ∃ (x4_1 : List (List Int)) (x15_1 : Int), v15 = .int .i64 x15_1 ∧ Aside0 (spec_PlacingTable.l0 kq x4_1 l0 (l0.length : Int) x15_1 = some (r1, r2)) ∧ Aside0 (kq ≤ k) ∧ Aside0 (Kd.S (Kd.slice 3 (Kd.int .i64)) 24 w' w.heap.size (fun _ => True) v336 x4_1) ∧ Aside0 (Below w.heap.size w w'))
   case atStart => exact ⟨(t335), (0), (by first | rfl | (simp; done) | (simp [*]; done)), H', ⟨Nat.le_refl _⟩, ⟨by (with_reducible repeat (first | apply Kd.S_alloc | apply Kd.S_drewN | apply Kd.S_drew)); exact HO337.out⟩, ⟨by repeat (first | (with_reducible first | exact HB.out | apply below_alloc | apply pw_below_drewN | apply below_drew1) | exact HB.out)⟩⟩
   case round =>
    clear H'
    try clear c2
    try clear p2
    try clear c3
    try clear c4
    try clear c5
    obtain ⟨x4_1, x15_1, rfl, HA, HK1, HO_4, HB⟩ := hrel
    cases gk with
    | zero => exact absurd HA.out (by simp [spec_PlacingTable.l0])
    | succ k1 =>
     have H := HA.out
     clear HA
     simp only [spec_PlacingTable.l0] at H
     by_cases c6 : x15_1 < (l0.length : Int)
     · rw [if_pos c6] at H
       have c6b0 : decide (x15_1 < (l0.length : Int)) = true := decide_eq_true c6
       clear c6
       by_cases c7 : 0 ≤ x15_1
       · rw [if_pos c7] at H
         have c7b0 : decide (0 ≤ x15_1) = true := decide_eq_true c7
         clear c7
         by_cases c8 : x15_1 < (l0.length : Int)
         · rw [if_pos c8] at H
           have c8b0 : decide (x15_1 < (l0.length : Int)) = true := decide_eq_true c8
           clear c8
           by_cases c9 : x15_1 < (x4_1.length : Int)
           · rw [if_pos c9] at H
             have c9b0 : decide (x15_1 < (x4_1.length : Int)) = true := decide_eq_true c9
             clear c9
             by_cases c10 : 0 ≤ (rd l0 x15_1)
             · rw [if_pos c10] at H
               have c10b0 : decide (0 ≤ (rd l0 x15_1)) = true := decide_eq_true c10
               clear c10
               by_cases c11 : (rd l0 x15_1) < ((rd_L1 x4_1 x15_1).length : Int)
               · rw [if_pos c11] at H
                 have c11b0 : decide ((rd l0 x15_1) < ((rd_L1 x4_1 x15_1).length : Int)) = true := decide_eq_true c11
                 clear c11
                 obtain ⟨y340, hy340⟩ : ∃ y_ : List Int, y_ = ((rd_L1 x4_1 x15_1).set ((rd l0 x15_1) : Int).toNat 1) := ⟨_, rfl⟩
                 replace H : (spec_PlacingTable.l0 k1 (x4_1.set (x15_1 : Int).toNat y340) l0 (l0.length : Int) (wrap64 (x15_1 + 1))) = some (r1, r2) := by first | (rw [hy340]; with_reducible exact H) | (have H2_ := (Option.bind_some _ _).symm.trans H; rw [hy340]; with_reducible exact H2_) | (have H2_ := (Option.bind_some _ _).symm.trans H; with_reducible exact H2_) | with_reducible exact H | (rw [hy340]; exact H) | exact H
                 have Ny340 := Aside0.mk hy340
                 clear hy340
                 obtain ⟨y342, hy342⟩ : ∃ y_ : List (List Int), y_ = (x4_1.set (x15_1 : Int).toNat y340) := ⟨_, rfl⟩
                 replace H : (spec_PlacingTable.l0 k1 y342 l0 (l0.length : Int) (wrap64 (x15_1 + 1))) = some (r1, r2) := by first | (rw [hy342]; with_reducible exact H) | (have H2_ := (Option.bind_some _ _).symm.trans H; rw [hy342]; with_reducible exact H2_) | (have H2_ := (Option.bind_some _ _).symm.trans H; with_reducible exact H2_) | with_reducible exact H | (rw [hy342]; exact H) | exact H
                 have Ny342 := Aside0.mk hy342
                 clear hy342
                 have H' := Aside0.mk H
                 clear H
                 have p338 : 0 ≤ (x15_1 : Int) := of_decide_eq_true (by first | (with_reducible assumption) | assumption)
                 have q338 : x15_1 < (l0.length : Int) := of_decide_eq_true (by first | (with_reducible assumption) | assumption)
                 obtain ⟨ad338, e338, hx338_0⟩ := Kd.at_int HR0.out x15_1 p338 q338
                 cases e338
                 replace hx338_0 := (HB.out.cell (World.block_lt_of_cell? w _ hx338_0)).trans hx338_0
                 replace p338 := eq_true p338
                 replace q338 := eq_true q338
                 obtain ⟨Ao13, co13, eo13⟩ := Kd.S_slice HO_4.out
                 subst eo13
                 have p339 : 0 ≤ (x15_1 : Int) := of_decide_eq_true (by first | (with_reducible assumption) | assumption)
                 have q339 : x15_1 < (x4_1.length : Int) := of_decide_eq_true (by first | (with_reducible assumption) | assumption)
                 obtain ⟨ad339, A339_0, c339_0, e339, hx339_0, hl339_0, hi339_0⟩ := at_L1 (Kd.S_reads' HO_4.out).2.2 x15_1 p339 q339
                 cases e339
                 obtain ⟨ce339, hce339, hMe339, hcc339⟩ := Kd.S_get HO_4.out [] x15_1 p339 (by first | exact q339 | exact of_decide_eq_true (by first | (with_reducible assumption) | assumption) | (have e_ := (Kd.S_reads' HO_4.out).1; omega))
                 obtain ⟨ve339_0, rfl, ge339_0⟩ := hMe339
                 have hv339_0 := hcc339 0 _ rfl
                 rw [Nat.add_zero, show ((Kd.slice 3 (Kd.int .i64))).sz = 1 from rfl, Nat.mul_one] at hv339_0
                 replace hv339_0 := Option.some.inj (hv339_0.symm.trans hx339_0)
                 rw [hv339_0] at ge339_0
                 have HL339_0 := Aside0.mk (show Kd.R (Kd.int .i64) 3 _ _ _ _ (rd_L1 x4_1 x15_1) from ge339_0)
                 clear hv339_0 ge339_0
                 have HX339_0 := Aside0.mk hx339_0
                 clear hcc339 hce339
                 have HR339_0 := Aside0.mk hi339_0
                 have HC339_0 := Aside0.mk hl339_0
                 clear hi339_0 hl339_0
                 replace p339 := eq_true p339
                 replace q339 := eq_true q339
                 have p12 : 0 ≤ ((rd l0 x15_1) : Int) := of_decide_eq_true (by first | (with_reducible assumption) | assumption)
                 have q12 : ((rd l0 x15_1) : Int) < (((rd_L1 x4_1 x15_1).length : Int) : Int) := of_decide_eq_true (by first | (with_reducible assumption) | assumption)
                 obtain ⟨go12, co12, eo12, gb12, gl12, cl12, HG12⟩ := Kd.R_form HL339_0.out (by omega)
                 (first | cases eo12 | (injection eo12 with ea_ en_ ec_; (first | subst ea_ | (injection ea_ with ea_; subst ea_)); subst ec_; clear en_))
                 have GB12 := Aside0.mk gb12
                 have GG12 := Aside0.mk HG12
                 clear gb12 gl12 HG12
                 obtain ⟨hx12_0, hf12_0⟩ := Kd.R_celln 0 HL339_0.out ((rd l0 x15_1) : Int) p12 q12
                 replace p12 := eq_true p12
                 replace q12 := eq_true q12
                 have hq14 : (x15_1 : Int) < (x4_1.length : Int) := (by have h_ : (x15_1 : Int) < ((x4_1.length : Int) : Int) := of_decide_eq_true (by first | (with_reducible assumption) | assumption); first | exact h_ | (have e_ := (Kd.S_reads' HO_4.out).1; omega) | simpa only [List.length_set, List.length_set] using h_)
                 obtain ⟨oki14, ce14, hcl14, hM14, hcc14, hok14, hbk14⟩ := Kd.S_borrow HO_4.out [] (x15_1 : Int) (of_decide_eq_true (by first | (with_reducible assumption) | assumption)) (by first | exact hq14 | (have e_ := (Kd.S_reads' HO_4.out).1; omega))
                 obtain ⟨ve14_0, rfl, ge14_0⟩ := hM14
                 have hv14 := hcc14 0 _ rfl
                 rw [Nat.add_zero, show ((Kd.slice 3 (Kd.int .i64))).sz = 1 from rfl, Nat.mul_one] at hv14
                 replace hv14 := Option.some.inj (hv14.symm.trans HX339_0.out)
                 subst hv14
                 clear hcc14 hcl14
                 replace ge14_0 := (show Kd.R (Kd.int .i64) 3 _ _ _ _ (rd_L1 x4_1 x15_1) from ge14_0)
                 have HP14 := Kd.R_putg ge14_0 ((rd l0 x15_1) : Int) 1
                 go_wp2_with (first | ((with_reducible refine gate_store (t := 3) (p := 25) rfl ?_); refine store_event (t := 3) (p := 25) (v := ?vo_w15) (w1 := (wr.setCell ⟨go12, ((rd l0 x15_1) : Int).toNat, none⟩ (.int .i64 1))) ?hg ?ho ?hn ?hr ?_; (case ho => rfl); (case hg => rfl); (case hn => rfl); (case hr => first | (go_simp; done) | (go_simp; rfl)); intro w15 hw; have hg : wr.grownBy w15 (some go12) := (by rw [hw]; exact HP14.2); have hz_ : Kd.R (Kd.int .i64) 3 w15 w.heap.size oki14 (.slice (some ⟨go12, 0, none⟩) (rd_L1 x4_1 x15_1).length c339_0) y340 := (by rw [hw, Ny340.out]; exact HP14.1); have hp_ : Kd.S (Kd.slice 3 (Kd.int .i64)) 24 w15 w.heap.size (fun _ => True) (.slice (some ad339) x4_1.length co13) y342 := (by rw [Ny342.out]; exact hbk14 hg (fun k_ e_ => by injection e_ with e_; subst e_; exact ge14_0.1 _ rfl) (Kd.M_row hz_)); have hm_ := Kd.R_mono hz_ hok14; clear HP14 hbk14; have n0_ := Aside0.mk (hp_); have n1_ := Aside0.mk ((by rw [hw]; exact below_set (HB.out) GB12.out : Below w.heap.size w w15)); have n2_ := Aside0.mk (hm_); have n3_ := Aside0.mk ((Kd.R_reads' hm_).2.1); clear HO_4; clear HB; clear HL339_0; have HO_4 := n0_; have HB := n1_; have HL343 := n2_; have HC341 := n3_; clear n0_ n1_ n2_ n3_; clear hg hw hp_ hz_ hm_ hok14))
                 go_roundg k1
                 case measure => have := HK1.out; omega
                 case rel => exact ⟨(y342), (wrap64 (x15_1 + 1)), (by first | rfl | (simp; done) | (simp [*]; done)), H', ⟨by have := HK1.out; omega⟩, ⟨by (with_reducible repeat (first | apply Kd.S_alloc | apply Kd.S_drewN | apply Kd.S_drew)); exact HO_4.out⟩, ⟨by repeat (first | (with_reducible first | exact HB.out | apply below_alloc | apply pw_below_drewN | apply below_drew1) | exact HB.out)⟩⟩
               · rw [if_neg c11] at H
                 exact absurd H (by simp)
             · rw [if_neg c10] at H
               exact absurd H (by simp)
           · rw [if_neg c9] at H
             exact absurd H (by simp)
         · rw [if_neg c8] at H
           exact absurd H (by simp)
       · rw [if_neg c7] at H
         exact absurd H (by simp)
     · rw [if_neg c6] at H
       have c6b0 : decide (x15_1 < (l0.length : Int)) = false := decide_eq_false c6
       clear c6
       simp only [Option.some.injEq, Prod.mk.injEq] at H
       obtain ⟨rfl, rfl⟩ := H
       go_wp2
       go_ret2
       exact ⟨_, by first | rfl | (simp [errW_none, errW_some] <;> rfl) | (simp [*, errW_none, errW_some] <;> rfl), by (with_reducible repeat (first | apply Kd.S_alloc | apply Kd.S_drewN | apply Kd.S_drew)); exact HO_4.out, by repeat (first | (with_reducible first | exact HB.out | apply below_alloc | apply pw_below_drewN | apply below_drew1) | exact HB.out)⟩
 · replace c3 := Bool.eq_false_iff.mpr c3
   subst c3
   have H1 : (some (([] : List (List Int)), false)) = some (r1, r2) := by rw [if_neg (show ¬ (false = true) by decide)] at H; exact H
   clear H
   have H := H1
   clear H1
   simp only [Option.some.injEq, Prod.mk.injEq] at H
   obtain ⟨rfl, rfl⟩ := H
   go_enter Tryd.func25, Tryd.ntmps25
   go_wp2_with (first | ((with_reducible refine gate_callee (f := 49) rfl ?_); refine goesL_ (some 8) rfl rfl Tryd.func49 (by kernel_rfl) rfl #[.slice A0 l0.length c0] rfl (by (try simp only [List.map_toArray, List.map_cons, List.map_nil]); first | done | rfl | (simp only [List.length_drop, List.length_take]; rfl)) ?_; (with_reducible refine (spec_doPlacing.calls k _ _ l0 false _ ?side1 ?side2 A2.out).mono ?_); (case side1 => repeat (first | exact HR0.out | (with_reducible refine Kd.C_alloc ?_ _) | (with_reducible refine Kd.C_drewN ?_ _) | (with_reducible refine Kd.C_drew ?_))); (case side2 => exact HC0.out); rintro e w' ⟨rfl, ⟨nd, rfl⟩⟩; refine ⟨_, rfl, ?_⟩))
   go_ret2
   exact ⟨_, by first | rfl | (simp [errW_none, errW_some] <;> rfl) | (simp [*, errW_none, errW_some] <;> rfl), by first | exact Kd.S_nil _ _ _ _ _ | exact Kd.N_nil _ _ _ _ _ | exact Kd.V_nil _ _ _ _ _ | exact Kd.Q_nil _ _ _ _ _ | exact Kd.R_nil _ _ _ _ _, by repeat (first | (with_reducible first | exact HB.out | apply below_alloc | apply pw_below_drewN | apply below_drew1) | exact HB.out)⟩

end Go.Proofs.YtgcgecbdmomceaaDoor.A

-- made by a program of this repo (wip/pp.py) through the kit's printer
namespace Go.Proofs.YtgcgecbdmomceaaDoor.A
open Go.RowKit Go.Proofs.YtgcgecbdmomceaaDoorW.PrintWords Go.Proofs.YtgcgecbdmomceaaDoorW.PrintLast Go.Proofs.YtgcgecbdmomceaaDoorW.PrintMore
attribute [local go_sem] max2_int min2_int max_two min_two max_three min_three max_four min_four
set_option linter.unusedVariables false
set_option linter.unusedSimpArgs false

/-! ### laws_yRows: function 26 -/
def laws_yRows.l0 : Nat → List (List Int) → List (List Int) → Int → Int → Option (Bool)
 | 0, _, _, _, _ => none
 | k + 1, x0, x1, x12, x13 => if x13 < x12 then (if 0 ≤ x13 then (if x13 < (x0.length : Int) then (if x13 < (x1.length : Int) then ((laws_ySame.f k (rd_L1 x0 x13) (rd_L1 x1 x13)).bind fun t346 => (if t346 = true then (laws_yRows.l0 k x0 x1 x12 (wrap64 (x13 + 1))) else (some false))) else (none)) else (none)) else (none)) else (some true)
def laws_yRows.f (k : Nat) (l0 : List (List Int)) (l1 : List (List Int)) : Option (Bool) := if (l0.length : Int) = (l1.length : Int) then (laws_yRows.l0 k l0 l1 (l0.length : Int) 0) else (some false)
set_option maxHeartbeats 8000000 in
set_option maxRecDepth 100000 in
theorem laws_yRows.calls (k : Nat) (A0 : Option Addr) (c0 : Nat) (l0 : List (List Int)) (A1 : Option Addr) (c1 : Nat) (l1 : List (List Int)) (r : Bool) (w : World) (hr0 : Kd.C (Kd.slice 3 (Kd.int .i64)) w A0 l0.length l0) (hc0 : l0.length ≤ c0) (hr1 : Kd.C (Kd.slice 3 (Kd.int .i64)) w A1 l1.length l1) (hc1 : l1.length ≤ c1) (h : laws_yRows.f k l0 l1 = some r) :
 Calls Tryd.prog 26 #[.slice A0 l0.length c0, .slice A1 l1.length c1] w fun e w' => e = .returned (.bool r) ∧ Drawn0 w w' := by
 have HR0 := Aside0.mk hr0
 have HC0 := Aside0.mk hc0
 clear hr0 hc0
 have HR1 := Aside0.mk hr1
 have HC1 := Aside0.mk hc1
 clear hr1 hc1
 have H : (if (l0.length : Int) = (l1.length : Int) then (laws_yRows.l0 k l0 l1 (l0.length : Int) 0) else (some false)) = some r := h
 clear h
 by_cases c3 : (l0.length : Int) = (l1.length : Int)
 · rw [if_pos c3] at H
   have c3b0 : ((l0.length : Int) == (l1.length : Int)) = true := beq_iff_eq.mpr c3
   have c3b1 : ((l0.length : Int) != (l1.length : Int)) = false := bne_eq_false_iff_eq.mpr c3
   have c3b2 : (l0.length == l1.length) = true := by first | simpa using c3 | (simp at c3 ⊢; omega)
   clear c3
   have H' := Aside0.mk H
   clear H
   go_enter Tryd.func26, Tryd.ntmps26
   go_wp2
   repeat (go_quiet (fail); try go_wp2)
   go_loopg [13] k (fun kq v13 w' => ∃ (x13_1 : Int), v13 = .int .i64 x13_1 ∧ Aside0 (laws_yRows.l0 kq l0 l1 (l0.length : Int) x13_1 = some r) ∧ Aside0 (kq ≤ k) ∧ Drawn0 w w')
   case atStart => exact ⟨(0), (by first | rfl | (simp; done) | (simp [*]; done)), H', ⟨Nat.le_refl _⟩, by repeat (first | exact Drawn0.refl _ | apply Drawn0.step)⟩
   case round =>
    clear H'
    try clear c1
    try clear c2
    try clear p2
    try clear c3
    try clear c3b0
    try clear c3b1
    try clear c3b2
    obtain ⟨x13_1, rfl, HA, HK1, ⟨m1, rfl⟩⟩ := hrel
    cases gk with
    | zero => exact absurd HA.out (by simp [laws_yRows.l0])
    | succ k1 =>
     have H := HA.out
     clear HA
     simp only [laws_yRows.l0] at H
     by_cases c4 : x13_1 < (l0.length : Int)
     · rw [if_pos c4] at H
       have c4b0 : decide (x13_1 < (l0.length : Int)) = true := decide_eq_true c4
       clear c4
       by_cases c5 : 0 ≤ x13_1
       · rw [if_pos c5] at H
         have c5b0 : decide (0 ≤ x13_1) = true := decide_eq_true c5
         clear c5
         by_cases c6 : x13_1 < (l0.length : Int)
         · rw [if_pos c6] at H
           have c6b0 : decide (x13_1 < (l0.length : Int)) = true := decide_eq_true c6
           clear c6
           by_cases c7 : x13_1 < (l1.length : Int)
           · rw [if_pos c7] at H
             have c7b0 : decide (x13_1 < (l1.length : Int)) = true := decide_eq_true c7
             clear c7
             replace H := Option.bind_eq_some_iff.mp H
             obtain ⟨t346, A80, H⟩ := H
             replace H : (if t346 = true then (laws_yRows.l0 k1 l0 l1 (l0.length : Int) (wrap64 (x13_1 + 1))) else (some false)) = some r := H
             have A8 := Aside0.mk A80
             clear A80
             by_cases c9 : t346 = true
             · subst c9
               have H1 : (laws_yRows.l0 k1 l0 l1 (l0.length : Int) (wrap64 (x13_1 + 1))) = some r := by rw [if_pos rfl] at H; exact H
               clear H
               have H := H1
               clear H1
               have H' := Aside0.mk H
               clear H
               have p344 : 0 ≤ (x13_1 : Int) := of_decide_eq_true (by first | (with_reducible assumption) | assumption)
               have q344 : x13_1 < (l0.length : Int) := of_decide_eq_true (by first | (with_reducible assumption) | assumption)
               obtain ⟨ad344, A344_0, c344_0, e344, hx344_0, hl344_0, hi344_0⟩ := at_L1 HR0.out x13_1 p344 q344
               cases e344
               have HR344_0 := Aside0.mk hi344_0
               have HC344_0 := Aside0.mk hl344_0
               clear hi344_0 hl344_0
               replace p344 := eq_true p344
               replace q344 := eq_true q344
               have p345 : 0 ≤ (x13_1 : Int) := of_decide_eq_true (by first | (with_reducible assumption) | assumption)
               have q345 : x13_1 < (l1.length : Int) := of_decide_eq_true (by first | (with_reducible assumption) | assumption)
               obtain ⟨ad345, A345_0, c345_0, e345, hx345_0, hl345_0, hi345_0⟩ := at_L1 HR1.out x13_1 p345 q345
               cases e345
               have HR345_0 := Aside0.mk hi345_0
               have HC345_0 := Aside0.mk hl345_0
               clear hi345_0 hl345_0
               replace p345 := eq_true p345
               replace q345 := eq_true q345
               go_wp2_with (first | (go_at_call 20; (with_reducible refine (laws_ySame.calls k1 _ _ (rd_L1 l0 x13_1) _ _ (rd_L1 l1 x13_1) true _ ?side1 ?side2 ?side3 ?side4 A8.out).mono ?_); (case side1 => repeat (first | exact HR344_0.out | (with_reducible refine Kd.C_alloc ?_ _) | (with_reducible refine Kd.C_drewN ?_ _) | (with_reducible refine Kd.C_drew ?_))); (case side2 => exact HC344_0.out); (case side3 => repeat (first | exact HR345_0.out | (with_reducible refine Kd.C_alloc ?_ _) | (with_reducible refine Kd.C_drewN ?_ _) | (with_reducible refine Kd.C_drew ?_))); (case side4 => exact HC345_0.out); rintro e w' ⟨rfl, ⟨nd, rfl⟩⟩; (try first | exact ⟨rfl, _, World.drewN_drewN _ _ _⟩ | exact ⟨rfl, _, Eq.trans (World.drewN_drewN _ _ _) (congrArg (World.drewN _) (Nat.add_assoc _ _ _))⟩)))
               repeat (go_quiet (first | (go_at_call 20; (with_reducible refine (laws_ySame.calls k1 _ _ (rd_L1 l0 x13_1) _ _ (rd_L1 l1 x13_1) true _ ?side1 ?side2 ?side3 ?side4 A8.out).mono ?_); (case side1 => repeat (first | exact HR344_0.out | (with_reducible refine Kd.C_alloc ?_ _) | (with_reducible refine Kd.C_drewN ?_ _) | (with_reducible refine Kd.C_drew ?_))); (case side2 => exact HC344_0.out); (case side3 => repeat (first | exact HR345_0.out | (with_reducible refine Kd.C_alloc ?_ _) | (with_reducible refine Kd.C_drewN ?_ _) | (with_reducible refine Kd.C_drew ?_))); (case side4 => exact HC345_0.out); rintro e w' ⟨rfl, ⟨nd, rfl⟩⟩; (try first | exact ⟨rfl, _, World.drewN_drewN _ _ _⟩ | exact ⟨rfl, _, Eq.trans (World.drewN_drewN _ _ _) (congrArg (World.drewN _) (Nat.add_assoc _ _ _))⟩))); try go_wp2_with (first | (go_at_call 20; (with_reducible refine (laws_ySame.calls k1 _ _ (rd_L1 l0 x13_1) _ _ (rd_L1 l1 x13_1) true _ ?side1 ?side2 ?side3 ?side4 A8.out).mono ?_); (case side1 => repeat (first | exact HR344_0.out | (with_reducible refine Kd.C_alloc ?_ _) | (with_reducible refine Kd.C_drewN ?_ _) | (with_reducible refine Kd.C_drew ?_))); (case side2 => exact HC344_0.out); (case side3 => repeat (first | exact HR345_0.out | (with_reducible refine Kd.C_alloc ?_ _) | (with_reducible refine Kd.C_drewN ?_ _) | (with_reducible refine Kd.C_drew ?_))); (case side4 => exact HC345_0.out); rintro e w' ⟨rfl, ⟨nd, rfl⟩⟩; (try first | exact ⟨rfl, _, World.drewN_drewN _ _ _⟩ | exact ⟨rfl, _, Eq.trans (World.drewN_drewN _ _ _) (congrArg (World.drewN _) (Nat.add_assoc _ _ _))⟩))))
               go_roundg k1
               case measure => have := HK1.out; omega
               case rel => exact ⟨(wrap64 (x13_1 + 1)), (by first | rfl | (simp; done) | (simp [*]; done)), H', ⟨by have := HK1.out; omega⟩, by repeat (first | exact Drawn0.refl _ | apply Drawn0.step)⟩
             · replace c9 := Bool.eq_false_iff.mpr c9
               subst c9
               have H1 : (some false) = some r := by rw [if_neg (show ¬ (false = true) by decide)] at H; exact H
               clear H
               have H := H1
               clear H1
               obtain rfl := Option.some.inj H
               have p344 : 0 ≤ (x13_1 : Int) := of_decide_eq_true (by first | (with_reducible assumption) | assumption)
               have q344 : x13_1 < (l0.length : Int) := of_decide_eq_true (by first | (with_reducible assumption) | assumption)
               obtain ⟨ad344, A344_0, c344_0, e344, hx344_0, hl344_0, hi344_0⟩ := at_L1 HR0.out x13_1 p344 q344
               cases e344
               have HR344_0 := Aside0.mk hi344_0
               have HC344_0 := Aside0.mk hl344_0
               clear hi344_0 hl344_0
               replace p344 := eq_true p344
               replace q344 := eq_true q344
               have p345 : 0 ≤ (x13_1 : Int) := of_decide_eq_true (by first | (with_reducible assumption) | assumption)
               have q345 : x13_1 < (l1.length : Int) := of_decide_eq_true (by first | (with_reducible assumption) | assumption)
               obtain ⟨ad345, A345_0, c345_0, e345, hx345_0, hl345_0, hi345_0⟩ := at_L1 HR1.out x13_1 p345 q345
               cases e345
               have HR345_0 := Aside0.mk hi345_0
               have HC345_0 := Aside0.mk hl345_0
               clear hi345_0 hl345_0
               replace p345 := eq_true p345
               replace q345 := eq_true q345
               go_wp2_with (first | (go_at_call 20; (with_reducible refine (laws_ySame.calls k1 _ _ (rd_L1 l0 x13_1) _ _ (rd_L1 l1 x13_1) false _ ?side1 ?side2 ?side3 ?side4 A8.out).mono ?_); (case side1 => repeat (first | exact HR344_0.out | (with_reducible refine Kd.C_alloc ?_ _) | (with_reducible refine Kd.C_drewN ?_ _) | (with_reducible refine Kd.C_drew ?_))); (case side2 => exact HC344_0.out); (case side3 => repeat (first | exact HR345_0.out | (with_reducible refine Kd.C_alloc ?_ _) | (with_reducible refine Kd.C_drewN ?_ _) | (with_reducible refine Kd.C_drew ?_))); (case side4 => exact HC345_0.out); rintro e w' ⟨rfl, ⟨nd, rfl⟩⟩; (try first | exact ⟨rfl, _, World.drewN_drewN _ _ _⟩ | exact ⟨rfl, _, Eq.trans (World.drewN_drewN _ _ _) (congrArg (World.drewN _) (Nat.add_assoc _ _ _))⟩)))
               repeat (go_quiet (first | (go_at_call 20; (with_reducible refine (laws_ySame.calls k1 _ _ (rd_L1 l0 x13_1) _ _ (rd_L1 l1 x13_1) false _ ?side1 ?side2 ?side3 ?side4 A8.out).mono ?_); (case side1 => repeat (first | exact HR344_0.out | (with_reducible refine Kd.C_alloc ?_ _) | (with_reducible refine Kd.C_drewN ?_ _) | (with_reducible refine Kd.C_drew ?_))); (case side2 => exact HC344_0.out); (case side3 => repeat (first | exact HR345_0.out | (with_reducible refine Kd.C_alloc ?_ _) | (with_reducible refine Kd.C_drewN ?_ _) | (with_reducible refine Kd.C_drew ?_))); (case side4 => exact HC345_0.out); rintro e w' ⟨rfl, ⟨nd, rfl⟩⟩; (try first | exact ⟨rfl, _, World.drewN_drewN _ _ _⟩ | exact ⟨rfl, _, Eq.trans (World.drewN_drewN _ _ _) (congrArg (World.drewN _) (Nat.add_assoc _ _ _))⟩))); try go_wp2_with (first | (go_at_call 20; (with_reducible refine (laws_ySame.calls k1 _ _ (rd_L1 l0 x13_1) _ _ (rd_L1 l1 x13_1) false _ ?side1 ?side2 ?side3 ?side4 A8.out).mono ?_); (case side1 => repeat (first | exact HR344_0.out | (with_reducible refine Kd.C_alloc ?_ _) | (with_reducible refine Kd.C_drewN ?_ _) | (with_reducible refine Kd.C_drew ?_))); (case side2 => exact HC344_0.out); (case side3 => repeat (first | exact HR345_0.out | (with_reducible refine Kd.C_alloc ?_ _) | (with_reducible refine Kd.C_drewN ?_ _) | (with_reducible refine Kd.C_drew ?_))); (case side4 => exact HC345_0.out); rintro e w' ⟨rfl, ⟨nd, rfl⟩⟩; (try first | exact ⟨rfl, _, World.drewN_drewN _ _ _⟩ | exact ⟨rfl, _, Eq.trans (World.drewN_drewN _ _ _) (congrArg (World.drewN _) (Nat.add_assoc _ _ _))⟩))))
               go_ret
               exact ⟨by first | rfl | (simp; done) | (simp [*]; done), by repeat (first | exact Drawn0.refl _ | apply Drawn0.step)⟩
           · rw [if_neg c7] at H
             exact absurd H (by simp)
         · rw [if_neg c6] at H
           exact absurd H (by simp)
       · rw [if_neg c5] at H
         exact absurd H (by simp)
     · rw [if_neg c4] at H
       have c4b0 : decide (x13_1 < (l0.length : Int)) = false := decide_eq_false c4
       clear c4
       obtain rfl := Option.some.inj H
       go_wp2
       repeat (go_quiet (fail); try go_wp2)
       go_ret
       exact ⟨by first | rfl | (simp; done) | (simp [*]; done), by repeat (first | exact Drawn0.refl _ | apply Drawn0.step)⟩
 · rw [if_neg c3] at H
   have c3b0 : ((l0.length : Int) == (l1.length : Int)) = false := beq_eq_false_iff_ne.mpr c3
   have c3b1 : ((l0.length : Int) != (l1.length : Int)) = true := bne_iff_ne.mpr c3
   have c3b2 : (l0.length == l1.length) = false := by first | simpa using c3 | (simp at c3 ⊢; omega)
   obtain rfl := Option.some.inj H
   go_enter Tryd.func26, Tryd.ntmps26
   go_wp2
   repeat (go_quiet (fail); try go_wp2)
   go_ret
   exact ⟨by first | rfl | (simp; done) | (simp [*]; done), by repeat (first | exact Drawn0.refl _ | apply Drawn0.step)⟩

end Go.Proofs.YtgcgecbdmomceaaDoor.A

-- made by a program of this repo (wip/pp.py) through the kit's printer
namespace Go.Proofs.YtgcgecbdmomceaaDoor.A
open Go.RowKit Go.Proofs.YtgcgecbdmomceaaDoorW.PrintWords Go.Proofs.YtgcgecbdmomceaaDoorW.PrintLast Go.Proofs.YtgcgecbdmomceaaDoorW.PrintMore
attribute [local go_sem] max2_int min2_int max_two min_two max_three min_three max_four min_four
set_option linter.unusedVariables false
set_option linter.unusedSimpArgs false

/-! ### impl_total: function 68 -/
def impl_total.l0 : Nat → Int → List Int → Int → Int → Option (Int)
 | 0, _, _, _, _ => none
 | k + 1, x3, x6, x7, x8 => if x8 < x7 then (if 0 ≤ x8 then (if x8 < (x6.length : Int) then (impl_total.l0 k (wrap64 (x3 + (rd x6 x8))) x6 x7 (wrap64 (x8 + 1))) else (none)) else (none)) else (some x3)
def impl_total.f (k : Nat) (l0 : List Int) : Option (Int) := impl_total.l0 k 0 l0 (l0.length : Int) 0
set_option maxHeartbeats 8000000 in
set_option maxRecDepth 100000 in
theorem impl_total.calls (k : Nat) (A0 : Option Addr) (c0 : Nat) (l0 : List Int) (r : Int) (w : World) (hr0 : Kd.C (Kd.int .i64) w A0 l0.length l0) (hc0 : l0.length ≤ c0) (h : impl_total.f k l0 = some r) :
 Calls Tryd.prog 68 #[.slice A0 l0.length c0] w fun e w' => e = .returned (.int .i64 r) ∧ Drawn0 w w' := by
 have HR0 := Aside0.mk hr0
 have HC0 := Aside0.mk hc0
 clear hr0 hc0
 have H : (impl_total.l0 k 0 l0 (l0.length : Int) 0) = some r := h
 clear h
 have H' := Aside0.mk H
 clear H
 go_enter Tryd.func68, Tryd.ntmps68
 go_wp2
 go_loopg [3, 8] k (fun kq v3 v8 w' => ∃ (x3_1 : Int) (x8_1 : Int), v3 = .int .i64 x3_1 ∧ v8 = .int .i64 x8_1 ∧ Aside0 (impl_total.l0 kq x3_1 l0 (l0.length : Int) x8_1 = some r) ∧ Aside0 (kq ≤ k) ∧ Drawn0 w w')
 case atStart => exact ⟨(0), (0), (by first | rfl | (simp; done) | (simp [*]; done)), (by first | rfl | (simp; done) | (simp [*]; done)), H', ⟨Nat.le_refl _⟩, by repeat (first | exact Drawn0.refl _ | apply Drawn0.step)⟩
 case round =>
  clear H'
  obtain ⟨x3_1, x8_1, rfl, rfl, HA, HK1, ⟨m1, rfl⟩⟩ := hrel
  cases gk with
  | zero => exact absurd HA.out (by simp [impl_total.l0])
  | succ k1 =>
   have H := HA.out
   clear HA
   simp only [impl_total.l0] at H
   by_cases c2 : x8_1 < (l0.length : Int)
   · rw [if_pos c2] at H
     have c2b0 : decide (x8_1 < (l0.length : Int)) = true := decide_eq_true c2
     clear c2
     by_cases c3 : 0 ≤ x8_1
     · rw [if_pos c3] at H
       have c3b0 : decide (0 ≤ x8_1) = true := decide_eq_true c3
       clear c3
       by_cases c4 : x8_1 < (l0.length : Int)
       · rw [if_pos c4] at H
         have c4b0 : decide (x8_1 < (l0.length : Int)) = true := decide_eq_true c4
         clear c4
         have H' := Aside0.mk H
         clear H
         have p347 : 0 ≤ (x8_1 : Int) := of_decide_eq_true (by first | (with_reducible assumption) | assumption)
         have q347 : x8_1 < (l0.length : Int) := of_decide_eq_true (by first | (with_reducible assumption) | assumption)
         obtain ⟨ad347, e347, hx347_0⟩ := Kd.at_int HR0.out x8_1 p347 q347
         cases e347
         replace p347 := eq_true p347
         replace q347 := eq_true q347
         go_wp2
         go_roundg k1
         case measure => have := HK1.out; omega
         case rel => exact ⟨(wrap64 (x3_1 + (rd l0 x8_1))), (wrap64 (x8_1 + 1)), (by first | rfl | (simp; done) | (simp [*]; done)), (by first | rfl | (simp; done) | (simp [*]; done)), H', ⟨by have := HK1.out; omega⟩, by repeat (first | exact Drawn0.refl _ | apply Drawn0.step)⟩
       · rw [if_neg c4] at H
         exact absurd H (by simp)
     · rw [if_neg c3] at H
       exact absurd H (by simp)
   · rw [if_neg c2] at H
     have c2b0 : decide (x8_1 < (l0.length : Int)) = false := decide_eq_false c2
     clear c2
     obtain rfl := Option.some.inj H
     go_wp2
     go_ret
     exact ⟨by first | rfl | (simp; done) | (simp [*]; done), by repeat (first | exact Drawn0.refl _ | apply Drawn0.step)⟩

end Go.Proofs.YtgcgecbdmomceaaDoor.A

-- made by a program of this repo (wip/pp.py) through the kit's printer
namespace Go.Proofs.YtgcgecbdmomceaaDoor.A
open Go.RowKit Go.Proofs.YtgcgecbdmomceaaDoorW.PrintWords Go.Proofs.YtgcgecbdmomceaaDoorW.PrintLast Go.Proofs.YtgcgecbdmomceaaDoorW.PrintMore
attribute [local go_sem] max2_int min2_int max_two min_two max_three min_three max_four min_four
set_option linter.unusedVariables false
set_option linter.unusedSimpArgs false

/-! ### impl_equalSum: function 51 -/
mutual
def impl_equalSum.l0 : Nat → List (List Int) → Int → List (List Int) → Int → Int → Option (Int × Bool)
 | 0, _, _, _, _, _ => none
 | k + 1, x0, x4, x14, x15, x16 => if x16 < x15 then (if 0 ≤ x16 then (if x16 < (x14.length : Int) then (impl_equalSum.l1 k x0 x4 x16 (rd_L1 x14 x16) 0 x14 x15 x16 x0 (x0.length : Int) 0) else (none)) else (none)) else (some (x4, true))
def impl_equalSum.l1 : Nat → List (List Int) → Int → Int → List Int → Int → List (List Int) → Int → Int → List (List Int) → Int → Int → Option (Int × Bool)
 | 0, _, _, _, _, _, _, _, _, _, _, _ => none
 | k + 1, x0, x4, x5, x6, x7, x14, x15, x16, x21, x22, x23 => if x23 < x22 then (if 0 ≤ x23 then (if x23 < (x21.length : Int) then (if 0 ≤ x5 then (if x5 < ((rd_L1 x21 x23).length : Int) then (impl_equalSum.l1 k x0 x4 x5 x6 (wrap64 (x7 + (rd (rd_L1 x21 x23) x5))) x14 x15 x16 x21 x22 (wrap64 (x23 + 1))) else (none)) else (none)) else (none)) else (none)) else ((impl_total.f k x6).bind fun t353 => (if t353 = x4 then (if x7 = x4 then (impl_equalSum.l0 k x0 x4 x14 x15 (wrap64 (x16 + 1))) else (some (0, false))) else (some (0, false))))
end
def impl_equalSum.f (k : Nat) (l0 : List (List Int)) : Option (Int × Bool) := if 0 < (l0.length : Int) then ((impl_total.f k (rd_L1 l0 0)).bind fun t349 => (impl_equalSum.l0 k l0 t349 l0 (l0.length : Int) 0)) else (none)
set_option maxHeartbeats 8000000 in
set_option maxRecDepth 100000 in
theorem impl_equalSum.calls (k : Nat) (A0 : Option Addr) (c0 : Nat) (l0 : List (List Int)) (r1 : Int) (r2 : Bool) (w : World) (hr0 : Kd.C (Kd.slice 3 (Kd.int .i64)) w A0 l0.length l0) (hc0 : l0.length ≤ c0) (h : impl_equalSum.f k l0 = some (r1, r2)) :
 Calls Tryd.prog 51 #[.slice A0 l0.length c0] w fun e w' => e = .returned (.tuple #[.int .i64 r1, .bool r2]) ∧ Drawn0 w w' := by
 have HR0 := Aside0.mk hr0
 have HC0 := Aside0.mk hc0
 clear hr0 hc0
 have H : (if 0 < (l0.length : Int) then ((impl_total.f k (rd_L1 l0 0)).bind fun t349 => (impl_equalSum.l0 k l0 t349 l0 (l0.length : Int) 0)) else (none)) = some (r1, r2) := h
 clear h
 by_cases c2 : 0 < (l0.length : Int)
 · rw [if_pos c2] at H
   have c2b0 : decide (0 < (l0.length : Int)) = true := decide_eq_true c2
   have c2b1 : decide (0 < l0.length) = true := decide_eq_true (by omega)
   clear c2
   replace H := Option.bind_eq_some_iff.mp H
   obtain ⟨t349, A30, H⟩ := H
   replace H : (impl_equalSum.l0 k l0 t349 l0 (l0.length : Int) 0) = some (r1, r2) := H
   have A3 := Aside0.mk A30
   clear A30
   have H' := Aside0.mk H
   clear H
   have p348 : 0 ≤ (0 : Int) := (by omega)
   have q348 : 0 < (l0.length : Int) := of_decide_eq_true (by first | (with_reducible assumption) | assumption)
   obtain ⟨ad348, A348_0, c348_0, e348, hx348_0, hl348_0, hi348_0⟩ := at_L1 HR0.out 0 p348 q348
   cases e348
   have qi348 : (0 < l0.length) = True := eq_true (by omega)
   (try rw [show ((0 : Int)).toNat = 0 from rfl] at hx348_0)
   (try rw [Addr.add_zero'] at hx348_0)
   have HR348_0 := Aside0.mk hi348_0
   have HC348_0 := Aside0.mk hl348_0
   clear hi348_0 hl348_0
   replace p348 := eq_true p348
   replace q348 := eq_true q348
   go_enter Tryd.func51, Tryd.ntmps51
   go_wp2_with (first | ((with_reducible refine gate_callee (f := 68) rfl ?_); refine goesL_ (some 13) rfl rfl Tryd.func68 (by kernel_rfl) rfl #[.slice A348_0 (rd_L1 l0 0).length c348_0] rfl (by (try simp only [List.map_toArray, List.map_cons, List.map_nil]); first | done | rfl | (simp only [List.length_drop, List.length_take]; rfl)) ?_; (with_reducible refine (impl_total.calls k _ _ (rd_L1 l0 0) t349 _ ?side1 ?side2 A3.out).mono ?_); (case side1 => repeat (first | exact HR348_0.out | (with_reducible refine Kd.C_alloc ?_ _) | (with_reducible refine Kd.C_drewN ?_ _) | (with_reducible refine Kd.C_drew ?_))); (case side2 => exact HC348_0.out); rintro e w' ⟨rfl, ⟨nd, rfl⟩⟩; refine ⟨_, rfl, ?_⟩))
   go_loopg [16] k (fun kq v16 w' => ∃ (x16_1 : Int), v16 = .int .i64 x16_1 ∧ Aside0 (impl_equalSum.l0 kq l0 t349 l0 (l0.length : Int) x16_1 = some (r1, r2)) ∧ Aside0 (kq ≤ k) ∧ Drawn0 w w')
   case atStart => exact ⟨(0), (by first | rfl | (simp; done) | (simp [*]; done)), H', ⟨Nat.le_refl _⟩, by repeat (first | exact Drawn0.refl _ | apply Drawn0.step)⟩
   case round =>
    clear H'
    try clear c2
    try clear c2b0
    try clear c2b1
    try clear p2
    try clear c3
    try clear p3
    try clear q3
    try clear hx3
    try clear qi3
    try clear hx348_0
    try clear p348
    try clear q348
    obtain ⟨x16_1, rfl, HA, HK1, ⟨m1, rfl⟩⟩ := hrel
    cases gk with
    | zero => exact absurd HA.out (by simp [impl_equalSum.l0])
    | succ k1 =>
     have H := HA.out
     clear HA
     simp only [impl_equalSum.l0] at H
     by_cases c4 : x16_1 < (l0.length : Int)
     · rw [if_pos c4] at H
       have c4b0 : decide (x16_1 < (l0.length : Int)) = true := decide_eq_true c4
       clear c4
       by_cases c5 : 0 ≤ x16_1
       · rw [if_pos c5] at H
         have c5b0 : decide (0 ≤ x16_1) = true := decide_eq_true c5
         clear c5
         by_cases c6 : x16_1 < (l0.length : Int)
         · rw [if_pos c6] at H
           have c6b0 : decide (x16_1 < (l0.length : Int)) = true := decide_eq_true c6
           clear c6
           have H' := Aside0.mk H
           clear H
           have p350 : 0 ≤ (x16_1 : Int) := of_decide_eq_true (by first | (with_reducible assumption) | assumption)
           have q350 : x16_1 < (l0.length : Int) := of_decide_eq_true (by first | (with_reducible assumption) | assumption)
           obtain ⟨ad350, A350_0, c350_0, e350, hx350_0, hl350_0, hi350_0⟩ := at_L1 HR0.out x16_1 p350 q350
           obtain rfl : ad348 = ad350 := (by injection e350)
           have HR350_0 := Aside0.mk hi350_0
           have HC350_0 := Aside0.mk hl350_0
           clear hi350_0 hl350_0
           replace p350 := eq_true p350
           replace q350 := eq_true q350
           go_wp2
           go_loopg [7, 23] k1 (fun kq v7 v23 w' => ∃ (x7_2 : Int) (x23_2 : Int), v7 = .int .i64 x7_2 ∧ v23 = .int .i64 x23_2 ∧ Aside0 (impl_equalSum.l1 kq l0 t349 x16_1 (rd_L1 l0 x16_1) x7_2 l0 (l0.length : Int) x16_1 l0 (l0.length : Int) x23_2 = some (r1, r2)) ∧ Aside0 (kq ≤ k1) ∧ Drawn0 w w')
           case atStart => exact ⟨(0), (0), (by first | rfl | (simp; done) | (simp [*]; done)), (by first | rfl | (simp; done) | (simp [*]; done)), H', ⟨Nat.le_refl _⟩, by repeat (first | exact Drawn0.refl _ | apply Drawn0.step)⟩
           case round =>
            clear H'
            try clear c2
            try clear c2b0
            try clear c2b1
            try clear p2
            try clear c3
            try clear p3
            try clear q3
            try clear hx3
            try clear qi3
            try clear c4
            try clear c4b0
            try clear c5
            try clear c5b0
            try clear c6
            try clear c6b0
            try clear hx348_0
            try clear hx350_0
            try clear p2
            try clear p3
            try clear p348
            try clear p350
            try clear q3
            try clear q348
            try clear q350
            obtain ⟨x7_2, x23_2, rfl, rfl, HA, HK2, ⟨m2, rfl⟩⟩ := hrel
            cases gk with
            | zero => exact absurd HA.out (by simp [impl_equalSum.l1])
            | succ k2 =>
             have H := HA.out
             clear HA
             simp only [impl_equalSum.l1] at H
             by_cases c7 : x23_2 < (l0.length : Int)
             · rw [if_pos c7] at H
               have c7b0 : decide (x23_2 < (l0.length : Int)) = true := decide_eq_true c7
               clear c7
               by_cases c8 : 0 ≤ x23_2
               · rw [if_pos c8] at H
                 have c8b0 : decide (0 ≤ x23_2) = true := decide_eq_true c8
                 clear c8
                 by_cases c9 : x23_2 < (l0.length : Int)
                 · rw [if_pos c9] at H
                   have c9b0 : decide (x23_2 < (l0.length : Int)) = true := decide_eq_true c9
                   clear c9
                   by_cases c10 : 0 ≤ x16_1
                   · rw [if_pos c10] at H
                     have c10b0 : decide (0 ≤ x16_1) = true := decide_eq_true c10
                     clear c10
                     by_cases c11 : x16_1 < ((rd_L1 l0 x23_2).length : Int)
                     · rw [if_pos c11] at H
                       have c11b0 : decide (x16_1 < ((rd_L1 l0 x23_2).length : Int)) = true := decide_eq_true c11
                       clear c11
                       have H' := Aside0.mk H
                       clear H
                       have p351 : 0 ≤ (x23_2 : Int) := of_decide_eq_true (by first | (with_reducible assumption) | assumption)
                       have q351 : x23_2 < (l0.length : Int) := of_decide_eq_true (by first | (with_reducible assumption) | assumption)
                       obtain ⟨ad351, A351_0, c351_0, e351, hx351_0, hl351_0, hi351_0⟩ := at_L1 HR0.out x23_2 p351 q351
                       obtain rfl : ad348 = ad351 := (by injection e351)
                       have HR351_0 := Aside0.mk hi351_0
                       have HC351_0 := Aside0.mk hl351_0
                       clear hi351_0 hl351_0
                       replace p351 := eq_true p351
                       replace q351 := eq_true q351
                       have p352 : 0 ≤ (x16_1 : Int) := of_decide_eq_true (by first | (with_reducible assumption) | assumption)
                       have q352 : x16_1 < ((rd_L1 l0 x23_2).length : Int) := of_decide_eq_true (by first | (with_reducible assumption) | assumption)
                       obtain ⟨ad352, e352, hx352_0⟩ := Kd.at_int HR351_0.out x16_1 p352 q352
                       cases e352
                       replace p352 := eq_true p352
                       replace q352 := eq_true q352
                       go_wp2
                       go_roundg k2
                       case measure => have := HK1.out; have := HK2.out; omega
                       case rel => exact ⟨(wrap64 (x7_2 + (rd (rd_L1 l0 x23_2) x16_1))), (wrap64 (x23_2 + 1)), (by first | rfl | (simp; done) | (simp [*]; done)), (by first | rfl | (simp; done) | (simp [*]; done)), H', ⟨by have := HK1.out; have := HK2.out; omega⟩, by repeat (first | exact Drawn0.refl _ | apply Drawn0.step)⟩
                     · rw [if_neg c11] at H
                       exact absurd H (by simp)
                   · rw [if_neg c10] at H
                     exact absurd H (by simp)
                 · rw [if_neg c9] at H
                   exact absurd H (by simp)
               · rw [if_neg c8] at H
                 exact absurd H (by simp)
             · rw [if_neg c7] at H
               have c7b0 : decide (x23_2 < (l0.length : Int)) = false := decide_eq_false c7
               clear c7
               replace H := Option.bind_eq_some_iff.mp H
               obtain ⟨t353, A120, H⟩ := H
               replace H : (if t353 = t349 then (if x7_2 = t349 then (impl_equalSum.l0 k2 l0 t349 l0 (l0.length : Int) (wrap64 (x16_1 + 1))) else (some (0, false))) else (some (0, false))) = some (r1, r2) := H
               have A12 := Aside0.mk A120
               clear A120
               by_cases c13 : t353 = t349
               · rw [if_pos c13] at H
                 have c13b0 : (t353 == t349) = true := beq_iff_eq.mpr c13
                 have c13b1 : (t353 != t349) = false := bne_eq_false_iff_eq.mpr c13
                 clear c13
                 by_cases c14 : x7_2 = t349
                 · rw [if_pos c14] at H
                   have c14b0 : (x7_2 == t349) = true := beq_iff_eq.mpr c14
                   have c14b1 : (x7_2 != t349) = false := bne_eq_false_iff_eq.mpr c14
                   clear c14
                   have H' := Aside0.mk H
                   clear H
                   go_wp2_with (first | ((with_reducible refine gate_callee (f := 68) rfl ?_); refine goesL_ (some 35) rfl rfl Tryd.func68 (by kernel_rfl) rfl #[.slice A350_0 (rd_L1 l0 x16_1).length c350_0] rfl (by (try simp only [List.map_toArray, List.map_cons, List.map_nil]); first | done | rfl | (simp only [List.length_drop, List.length_take]; rfl)) ?_; (with_reducible refine (impl_total.calls k2 _ _ (rd_L1 l0 x16_1) t353 _ ?side1 ?side2 A12.out).mono ?_); (case side1 => repeat (first | exact HR350_0.out | (with_reducible refine Kd.C_alloc ?_ _) | (with_reducible refine Kd.C_drewN ?_ _) | (with_reducible refine Kd.C_drew ?_))); (case side2 => exact HC350_0.out); rintro e w' ⟨rfl, ⟨nd, rfl⟩⟩; refine ⟨_, rfl, ?_⟩))
                   go_roundg k2
                   case measure => have := HK1.out; have := HK2.out; omega
                   case rel => exact ⟨(wrap64 (x16_1 + 1)), (by first | rfl | (simp; done) | (simp [*]; done)), H', ⟨by have := HK1.out; have := HK2.out; omega⟩, by repeat (first | exact Drawn0.refl _ | apply Drawn0.step)⟩
                 · rw [if_neg c14] at H
                   have c14b0 : (x7_2 == t349) = false := beq_eq_false_iff_ne.mpr c14
                   have c14b1 : (x7_2 != t349) = true := bne_iff_ne.mpr c14
                   simp only [Option.some.injEq, Prod.mk.injEq] at H
                   obtain ⟨rfl, rfl⟩ := H
                   go_wp2_with (first | ((with_reducible refine gate_callee (f := 68) rfl ?_); refine goesL_ (some 35) rfl rfl Tryd.func68 (by kernel_rfl) rfl #[.slice A350_0 (rd_L1 l0 x16_1).length c350_0] rfl (by (try simp only [List.map_toArray, List.map_cons, List.map_nil]); first | done | rfl | (simp only [List.length_drop, List.length_take]; rfl)) ?_; (with_reducible refine (impl_total.calls k2 _ _ (rd_L1 l0 x16_1) t353 _ ?side1 ?side2 A12.out).mono ?_); (case side1 => repeat (first | exact HR350_0.out | (with_reducible refine Kd.C_alloc ?_ _) | (with_reducible refine Kd.C_drewN ?_ _) | (with_reducible refine Kd.C_drew ?_))); (case side2 => exact HC350_0.out); rintro e w' ⟨rfl, ⟨nd, rfl⟩⟩; refine ⟨_, rfl, ?_⟩))
                   go_ret2
                   exact ⟨by first | rfl | (simp; done) | (simp [*]; done), by repeat (first | exact Drawn0.refl _ | apply Drawn0.step)⟩
               · rw [if_neg c13] at H
                 have c13b0 : (t353 == t349) = false := beq_eq_false_iff_ne.mpr c13
                 have c13b1 : (t353 != t349) = true := bne_iff_ne.mpr c13
                 simp only [Option.some.injEq, Prod.mk.injEq] at H
                 obtain ⟨rfl, rfl⟩ := H
                 go_wp2_with (first | ((with_reducible refine gate_callee (f := 68) rfl ?_); refine goesL_ (some 35) rfl rfl Tryd.func68 (by kernel_rfl) rfl #[.slice A350_0 (rd_L1 l0 x16_1).length c350_0] rfl (by (try simp only [List.map_toArray, List.map_cons, List.map_nil]); first | done | rfl | (simp only [List.length_drop, List.length_take]; rfl)) ?_; (with_reducible refine (impl_total.calls k2 _ _ (rd_L1 l0 x16_1) t353 _ ?side1 ?side2 A12.out).mono ?_); (case side1 => repeat (first | exact HR350_0.out | (with_reducible refine Kd.C_alloc ?_ _) | (with_reducible refine Kd.C_drewN ?_ _) | (with_reducible refine Kd.C_drew ?_))); (case side2 => exact HC350_0.out); rintro e w' ⟨rfl, ⟨nd, rfl⟩⟩; refine ⟨_, rfl, ?_⟩))
                 go_ret2
                 exact ⟨by first | rfl | (simp; done) | (simp [*]; done), by repeat (first | exact Drawn0.refl _ | apply Drawn0.step)⟩
         · rw [if_neg c6] at H
           exact absurd H (by simp)
       · rw [if_neg c5] at H
         exact absurd H (by simp)
     · rw [if_neg c4] at H
       have c4b0 : decide (x16_1 < (l0.length : Int)) = false := decide_eq_false c4
       clear c4
       simp only [Option.some.injEq, Prod.mk.injEq] at H
       obtain ⟨rfl, rfl⟩ := H
       go_wp2
       go_ret2
       exact ⟨by first | rfl | (simp; done) | (simp [*]; done), by repeat (first | exact Drawn0.refl _ | apply Drawn0.step)⟩
 · rw [if_neg c2] at H
   exact absurd H (by simp)

end Go.Proofs.YtgcgecbdmomceaaDoor.A

-- made by a program of this repo (wip/pp.py) through the kit's printer
namespace Go.Proofs.YtgcgecbdmomceaaDoor.A
open Go.RowKit Go.Proofs.YtgcgecbdmomceaaDoorW.PrintWords Go.Proofs.YtgcgecbdmomceaaDoorW.PrintLast Go.Proofs.YtgcgecbdmomceaaDoorW.PrintMore
attribute [local go_sem] max2_int min2_int max_two min_two max_three min_three max_four min_four
set_option linter.unusedVariables false
set_option linter.unusedSimpArgs false

/-! ### impl_allWithin: function 44 -/
def impl_allWithin.l0 : Nat → Int → Int → List Int → Int → Int → Option (Bool)
 | 0, _, _, _, _, _ => none
 | k + 1, x1, x2, x9, x10, x11 => if x11 < x10 then (if 0 ≤ x11 then (if x11 < (x9.length : Int) then ((impl_within.f (rd x9 x11) x1 x2).bind fun t414 => (if t414 = true then (impl_allWithin.l0 k x1 x2 x9 x10 (wrap64 (x11 + 1))) else (some false))) else (none)) else (none)) else (some true)
def impl_allWithin.f (k : Nat) (l0 : List Int) (a1 : Int) (a2 : Int) : Option (Bool) := impl_allWithin.l0 k a1 a2 l0 (l0.length : Int) 0
set_option maxHeartbeats 8000000 in
set_option maxRecDepth 100000 in
theorem impl_allWithin.calls (k : Nat) (A0 : Option Addr) (c0 : Nat) (l0 : List Int) (a1 : Int) (a2 : Int) (r : Bool) (w : World) (hr0 : Kd.C (Kd.int .i64) w A0 l0.length l0) (hc0 : l0.length ≤ c0) (h : impl_allWithin.f k l0 a1 a2 = some r) :
 Calls Tryd.prog 44 #[.slice A0 l0.length c0, .int .i64 a1, .int .i64 a2] w fun e w' => e = .returned (.bool r) ∧ Drawn0 w w' := by
 have HR0 := Aside0.mk hr0
 have HC0 := Aside0.mk hc0
 clear hr0 hc0
 have H : (impl_allWithin.l0 k a1 a2 l0 (l0.length : Int) 0) = some r := h
 clear h
 have H' := Aside0.mk H
 clear H
 go_enter Tryd.func44, Tryd.ntmps44
 go_wp2
 go_loopg [11] k (fun kq v11 w' => ∃ (x11_1 : Int), v11 = .int .i64 x11_1 ∧ Aside0 (impl_allWithin.l0 kq a1 a2 l0 (l0.length : Int) x11_1 = some r) ∧ Aside0 (kq ≤ k) ∧ Drawn0 w w')
 case atStart => exact ⟨(0), (by first | rfl | (simp; done) | (simp [*]; done)), H', ⟨Nat.le_refl _⟩, by repeat (first | exact Drawn0.refl _ | apply Drawn0.step)⟩
 case round =>
  clear H'
  try clear p2
  obtain ⟨x11_1, rfl, HA, HK1, ⟨m1, rfl⟩⟩ := hrel
  cases gk with
  | zero => exact absurd HA.out (by simp [impl_allWithin.l0])
  | succ k1 =>
   have H := HA.out
   clear HA
   simp only [impl_allWithin.l0] at H
   by_cases c4 : x11_1 < (l0.length : Int)
   · rw [if_pos c4] at H
     have c4b0 : decide (x11_1 < (l0.length : Int)) = true := decide_eq_true c4
     clear c4
     by_cases c5 : 0 ≤ x11_1
     · rw [if_pos c5] at H
       have c5b0 : decide (0 ≤ x11_1) = true := decide_eq_true c5
       clear c5
       by_cases c6 : x11_1 < (l0.length : Int)
       · rw [if_pos c6] at H
         have c6b0 : decide (x11_1 < (l0.length : Int)) = true := decide_eq_true c6
         clear c6
         replace H := Option.bind_eq_some_iff.mp H
         obtain ⟨t414, A70, H⟩ := H
         replace H : (if t414 = true then (impl_allWithin.l0 k1 a1 a2 l0 (l0.length : Int) (wrap64 (x11_1 + 1))) else (some false)) = some r := H
         have A7 := Aside0.mk A70
         clear A70
         by_cases c8 : t414 = true
         · subst c8
           have H1 : (impl_allWithin.l0 k1 a1 a2 l0 (l0.length : Int) (wrap64 (x11_1 + 1))) = some r := by rw [if_pos rfl] at H; exact H
           clear H
           have H := H1
           clear H1
           have H' := Aside0.mk H
           clear H
           have p413 : 0 ≤ (x11_1 : Int) := of_decide_eq_true (by first | (with_reducible assumption) | assumption)
           have q413 : x11_1 < (l0.length : Int) := of_decide_eq_true (by first | (with_reducible assumption) | assumption)
           obtain ⟨ad413, e413, hx413_0⟩ := Kd.at_int HR0.out x11_1 p413 q413
           cases e413
           replace p413 := eq_true p413
           replace q413 := eq_true q413
           go_wp2_with (first | ((with_reducible refine gate_callee (f := 41) rfl ?_); refine goesL_ (some 18) rfl rfl Tryd.func41 (by kernel_rfl) rfl #[.int .i64 (rd l0 x11_1), .int .i64 a1, .int .i64 a2] rfl (by (try simp only [List.map_toArray, List.map_cons, List.map_nil]); first | done | rfl | (simp only [List.length_drop, List.length_take]; rfl)) ?_; (with_reducible refine (impl_within.calls (rd l0 x11_1) a1 a2 true _ A7.out).mono ?_); rintro e w' ⟨rfl, ⟨nd, rfl⟩⟩; refine ⟨_, rfl, ?_⟩))
           go_roundg k1
           case measure => have := HK1.out; omega
           case rel => exact ⟨(wrap64 (x11_1 + 1)), (by first | rfl | (simp; done) | (simp [*]; done)), H', ⟨by have := HK1.out; omega⟩, by repeat (first | exact Drawn0.refl _ | apply Drawn0.step)⟩
         · replace c8 := Bool.eq_false_iff.mpr c8
           subst c8
           have H1 : (some false) = some r := by rw [if_neg (show ¬ (false = true) by decide)] at H; exact H
           clear H
           have H := H1
           clear H1
           obtain rfl := Option.some.inj H
           have p413 : 0 ≤ (x11_1 : Int) := of_decide_eq_true (by first | (with_reducible assumption) | assumption)
           have q413 : x11_1 < (l0.length : Int) := of_decide_eq_true (by first | (with_reducible assumption) | assumption)
           obtain ⟨ad413, e413, hx413_0⟩ := Kd.at_int HR0.out x11_1 p413 q413
           cases e413
           replace p413 := eq_true p413
           replace q413 := eq_true q413
           go_wp2_with (first | ((with_reducible refine gate_callee (f := 41) rfl ?_); refine goesL_ (some 18) rfl rfl Tryd.func41 (by kernel_rfl) rfl #[.int .i64 (rd l0 x11_1), .int .i64 a1, .int .i64 a2] rfl (by (try simp only [List.map_toArray, List.map_cons, List.map_nil]); first | done | rfl | (simp only [List.length_drop, List.length_take]; rfl)) ?_; (with_reducible refine (impl_within.calls (rd l0 x11_1) a1 a2 false _ A7.out).mono ?_); rintro e w' ⟨rfl, ⟨nd, rfl⟩⟩; refine ⟨_, rfl, ?_⟩))
           go_ret
           exact ⟨by first | rfl | (simp; done) | (simp [*]; done), by repeat (first | exact Drawn0.refl _ | apply Drawn0.step)⟩
       · rw [if_neg c6] at H
         exact absurd H (by simp)
     · rw [if_neg c5] at H
       exact absurd H (by simp)
   · rw [if_neg c4] at H
     have c4b0 : decide (x11_1 < (l0.length : Int)) = false := decide_eq_false c4
     clear c4
     obtain rfl := Option.some.inj H
     go_wp2
     go_ret
     exact ⟨by first | rfl | (simp; done) | (simp [*]; done), by repeat (first | exact Drawn0.refl _ | apply Drawn0.step)⟩

end Go.Proofs.YtgcgecbdmomceaaDoor.A

namespace Go.Proofs.YtgcgecbdmomceaaDoor.A
open Go.RowKit Go.Proofs.YtgcgecbdmomceaaDoorW.PrintWords Go.Proofs.YtgcgecbdmomceaaDoorW.PrintLast Go.Proofs.YtgcgecbdmomceaaDoorW.PrintMore
set_option linter.unusedVariables false
set_option linter.unusedSimpArgs false
/-! plain lemmas that all pure texts lean on -/
theorem w64 {x : Int} (h1 : -9223372036854775808 ≤ x) (h2 : x ≤ 9223372036854775807) : wrap64 x = x := by
 unfold wrap64
 omega
theorem wsucc {i : Nat} {n : Nat} (h : i < n) (hn : n ≤ 9223372036854775807) : wrap64 ((i : Int) + 1) = ((i + 1 : Nat) : Int) := by
 rw [w64 (by omega) (by omega)]
 omega
theorem rdn {xs : List Int} {i : Nat} (h : i < xs.length) : rd xs (i : Int) = xs[i] := by
 simp [rd, h]
theorem Ev.succ {α : Type} {g : Nat → Option α} {r : α} (h : Ev (fun k => g (k + 1)) r) : Ev g r := Ev.step (fun _ => rfl) h
theorem Ev.get {α : Type} {g : Nat → Option α} {r : α} (h : Ev g r) : ∃ k, g k = some r := Ev.rounds h
theorem Ev.ite {α : Type} {c : Prop} [Decidable c] {g f : Nat → Option α} {r s : α} (h : c → Ev g r) (h' : ¬ c → Ev f s) : Ev (fun k => if c then g k else f k) (if c then r else s) := by
 by_cases hc : c
 · simp only [hc, if_true]
   exact h hc
 · simp only [hc, if_false]
   exact h' hc
/-- A loop over the elements of a list that is left early. -/
theorem ev_all {xs : List Int} {g : Nat → Int → Option Bool} (p : Int → Bool) (hend : Ev (fun k => g k (xs.length : Int)) true)
 (hyes : ∀ (i : Nat) (h : i < xs.length) r, p xs[i] = true → Ev (fun k => g k ((i + 1 : Nat) : Int)) r → Ev (fun k => g k (i : Int)) r)
 (hno : ∀ (i : Nat) (h : i < xs.length), p xs[i] = false → Ev (fun k => g k (i : Int)) false) :
 ∀ (n i : Nat), i + n = xs.length → Ev (fun k => g k (i : Int)) ((xs.drop i).all p)
 | 0, i, h => by
  rw [List.drop_eq_nil_of_le (by omega), show i = xs.length by omega]
  exact hend
 | n + 1, i, h => by
  have hi : i < xs.length := by omega
  rw [List.drop_eq_getElem_cons hi, List.all_cons]
  cases hp : p xs[i]
  · exact hno i hi hp
  · rw [Bool.true_and]
    exact hyes i hi _ hp (ev_all p hend hyes hno n (i + 1) (by omega))
/-- A loop over the elements of a list that carries a state. -/
theorem ev_fold {σ ρ : Type} {xs : List Int} {g : Nat → σ → Int → Option ρ} (step : σ → Int → σ) (I : σ → Nat → Prop) (fin : σ → ρ)
 (hend : ∀ s, I s xs.length → Ev (fun k => g k s (xs.length : Int)) (fin s))
 (hstep : ∀ (i : Nat) (h : i < xs.length) s r, I s i → I (step s xs[i]) (i + 1) → Ev (fun k => g k (step s xs[i]) ((i + 1 : Nat) : Int)) r → Ev (fun k => g k s (i : Int)) r)
 (hI : ∀ (i : Nat) (h : i < xs.length) s, I s i → I (step s xs[i]) (i + 1)) :
 ∀ (n i : Nat) (s : σ), i + n = xs.length → I s i → Ev (fun k => g k s (i : Int)) (fin ((xs.drop i).foldl step s))
 | 0, i, s, h, hs => by
  have e : i = xs.length := by omega
  subst e
  rw [List.drop_eq_nil_of_le (by omega)]
  exact hend s hs
 | n + 1, i, s, h, hs => by
  have hi : i < xs.length := by omega
  rw [List.drop_eq_getElem_cons hi, List.foldl_cons]
  exact hstep i hi s _ hs (hI i hi s hs) (ev_fold step I fin hend hstep hI n (i + 1) _ (by omega) (hI i hi s hs))
theorem rdi {xs : List Int} {i : Int} (h0 : 0 ≤ i) (h1 : i < xs.length) : rd xs i = xs[i.toNat]'(by omega) := by
 unfold rd
 rw [List.getD_eq_getElem?_getD, List.getElem?_eq_getElem (by omega)]
 rfl
end Go.Proofs.YtgcgecbdmomceaaDoor.A

namespace Go.Proofs.YtgcgecbdmomceaaDoor.A
open Go.RowKit Go.Proofs.YtgcgecbdmomceaaDoorW.PrintWords Go.Proofs.YtgcgecbdmomceaaDoorW.PrintLast Go.Proofs.YtgcgecbdmomceaaDoorW.PrintMore
set_option linter.unusedVariables false
set_option linter.unusedSimpArgs false
theorem l1In_eq (a b c : Int) : spec_l1In.f a b c = some (decide (b ≤ a ∧ a ≤ c)) := by
 unfold spec_l1In.f
 by_cases h : b ≤ a <;> simp [h]
theorem within_eq (a b c : Int) : impl_within.f a b c = some (decide (b ≤ a ∧ a ≤ c)) := by
 unfold impl_within.f
 by_cases h : b ≤ a <;> simp [h]
end Go.Proofs.YtgcgecbdmomceaaDoor.A

namespace Go.Proofs.YtgcgecbdmomceaaDoor.A
open Go.RowKit Go.Proofs.YtgcgecbdmomceaaDoorW.PrintWords Go.Proofs.YtgcgecbdmomceaaDoorW.PrintLast Go.Proofs.YtgcgecbdmomceaaDoorW.PrintMore
set_option linter.unusedVariables false
set_option linter.unusedSimpArgs false
def inR (lo hi : Int) (xs : List Int) : Bool := xs.all fun x => decide (lo ≤ x ∧ x ≤ hi)
theorem l1All_ev (xs : List Int) (lo hi : Int) (hx : xs.length ≤ 9223372036854775807) : Ev (fun k => spec_l1All.f k xs lo hi) (inR lo hi xs) := by
 have h := ev_all (xs := xs) (g := fun k i => spec_l1All.l0 k lo hi xs (xs.length : Int) i) (fun x => decide (lo ≤ x ∧ x ≤ hi))
  (Ev.succ (by simp only [spec_l1All.l0, if_neg (Int.lt_irrefl _)]; exact Ev.now _))
  (fun i h r hp hr => Ev.succ (by
   simp only [spec_l1All.l0, if_pos (show (i : Int) < (xs.length : Int) by omega), if_pos (show (0 : Int) ≤ (i : Int) by omega), rdn h, l1In_eq, Option.bind_some, hp, if_true, wsucc h hx]
   exact hr))
  (fun i h hp => Ev.succ (by
   simp only [spec_l1All.l0, if_pos (show (i : Int) < (xs.length : Int) by omega), if_pos (show (0 : Int) ≤ (i : Int) by omega), rdn h, l1In_eq, Option.bind_some, hp]
   exact Ev.now _)) xs.length 0 (by omega)
 exact h
theorem allWithin_ev (xs : List Int) (lo hi : Int) (hx : xs.length ≤ 9223372036854775807) : Ev (fun k => impl_allWithin.f k xs lo hi) (inR lo hi xs) := by
 have h := ev_all (xs := xs) (g := fun k i => impl_allWithin.l0 k lo hi xs (xs.length : Int) i) (fun x => decide (lo ≤ x ∧ x ≤ hi))
  (Ev.succ (by simp only [impl_allWithin.l0, if_neg (Int.lt_irrefl _)]; exact Ev.now _))
  (fun i h r hp hr => Ev.succ (by
   simp only [impl_allWithin.l0, if_pos (show (i : Int) < (xs.length : Int) by omega), if_pos (show (0 : Int) ≤ (i : Int) by omega), rdn h, within_eq, Option.bind_some, hp, if_true, wsucc h hx]
   exact hr))
  (fun i h hp => Ev.succ (by
   simp only [impl_allWithin.l0, if_pos (show (i : Int) < (xs.length : Int) by omega), if_pos (show (0 : Int) ≤ (i : Int) by omega), rdn h, within_eq, Option.bind_some, hp]
   exact Ev.now _)) xs.length 0 (by omega)
 exact h
end Go.Proofs.YtgcgecbdmomceaaDoor.A

/- slices.IndexFunc, slices.ContainsFunc at elements of one cell, told for any program that bears them (the shelf's worked proof, turned to rows that begin anywhere). -/
namespace Go.Proofs.YtgcgecbdmomceaaDoor.A
open Go.RowKit Go.Proofs.YtgcgecbdmomceaaDoorW.PrintWords Go.Proofs.YtgcgecbdmomceaaDoorW.PrintLast Go.Proofs.YtgcgecbdmomceaaDoorW.PrintMore
attribute [local go_sem] max2_int min2_int max_two min_two max_three min_three max_four min_four
set_option linter.unusedVariables false
set_option linter.unusedSimpArgs false

open Go.Shelf Go.Lib
set_option maxHeartbeats 2000000 in
theorem anyIdx {P : Program} {ρ : Ren} (L : SlLaysH.n6 P ρ) (ad : Addr) (n c : Nat) (vs : Nat → Value) (ps : Nat → Bool) (g : Nat) (lb : Array Value) (w : World) (eg : ∀ args w, (callFunc g args).run P w = .ok (.enter g args) w) (hbig : n ≤ 9223372036854775807)
 (hcell : ∀ j, j < n → w.cell? (ad.add j) = some (vs j)) (hcall : ∀ j, j < n → ∀ q, Calls P g (#[vs j] ++ lb) (w.drewN q) fun e w' => e = .returned (.bool (ps j)) ∧ ∃ q', w' = (w.drewN q).drewN q') :
 Calls P (ρ.f 6) #[.slice (some ad) n c, .func (.func g) #[] lb] w fun e w' => ∃ i : Int, e = .returned (.int .i64 i) ∧ (0 ≤ i ↔ ∃ j, j < n ∧ ps j = true) ∧ ∃ q, w' = w.drewN q := by
 have mixed := L.mixed; have t0 := L.t0; have a0 := L.a0; have z0 := L.z0; have v0 := L.v0; have t3 := L.t3; have a3 := L.a3; have z3 := L.z3; have v3 := L.v3; have t4 := L.t4; have a4 := L.a4; have z4 := L.z4; have v4 := L.v4; have t22 := L.t22; have a22 := L.a22; have z22 := L.z22; have v22 := L.v22; have a23 := L.a23; have z23 := L.z23; have t25 := L.t25; have a25 := L.a25; have z25 := L.z25; have v25 := L.v25
 have HC := Aside0.mk hcell
 have HF := Aside0.mk hcall
 clear hcell hcall
 obtain ⟨_, _, FG⟩ := L.f6
 go_enter FG, SlBodyH.n6_ntmps ρ
 go_wp2
 go_loopg [5, 8] n (fun gg _ s8 wr => ∃ kk q : Nat, kk ≤ n ∧ n - kk ≤ gg ∧ s8 = .int .i64 kk ∧ wr = w.drewN q ∧ Aside0 (∀ j, j < kk → ps j = false))
 case atStart => exact ⟨0, 0, Nat.zero_le _, by omega, rfl, rfl, ⟨fun j hj => absurd hj (Nat.not_lt_zero _)⟩⟩
 case round =>
  obtain ⟨kk, q, hkk, hg, rfl, rfl, HA⟩ := hrel
  by_cases hlt : kk < n
  · have hltz : (kk : Int) < (n : Int) := by omega
    have hce := HC.out kk hlt
    have hca := HF.out kk hlt
    generalize vs kk = v at hce hca
    cases hq : ps kk with
    | true =>
     rw [hq] at hca
     go_wp2_with (go_at_fn g; refine (hca _).mono ?_; rintro e w' ⟨rfl, q', rfl⟩)
     go_ret
     exact ⟨_, rfl, ⟨fun _ => ⟨kk, hlt, hq⟩, fun _ => by omega⟩, _, rfl⟩
    | false =>
     rw [hq] at hca
     go_wp2_with (go_at_fn g; refine (hca _).mono ?_; rintro e w' ⟨rfl, q', rfl⟩)
     go_roundg (n - (kk + 1))
     case measure => omega
     case rel =>
      refine ⟨kk + 1, _, by omega, by omega, by go_num, rfl, ⟨fun j hj => ?_⟩⟩
      by_cases e : j = kk
      · subst e
        exact hq
      · exact HA.out j (by omega)
  · have hltz : ¬ (kk : Int) < (n : Int) := by omega
    have : kk = n := by omega
    subst this
    go_wp2
    go_ret
    refine ⟨_, rfl, ⟨fun h => absurd h (by decide), ?_⟩, q, rfl⟩
    rintro ⟨j, hj, hp⟩
    rw [HA.out j hj] at hp
    cases hp
set_option maxHeartbeats 2000000 in
theorem anyHas {P : Program} {ρ : Ren} (L : SlLaysH.n8 P ρ) (ad : Addr) (n c : Nat) (vs : Nat → Value) (ps : Nat → Bool) (g : Nat) (lb : Array Value) (w : World) (eg : ∀ args w, (callFunc g args).run P w = .ok (.enter g args) w) (hbig : n ≤ 9223372036854775807)
 (hcell : ∀ j, j < n → w.cell? (ad.add j) = some (vs j)) (hcall : ∀ j, j < n → ∀ q, Calls P g (#[vs j] ++ lb) (w.drewN q) fun e w' => e = .returned (.bool (ps j)) ∧ ∃ q', w' = (w.drewN q).drewN q') :
 Calls P (ρ.f 8) #[.slice (some ad) n c, .func (.func g) #[] lb] w fun e w' => ∃ r : Bool, e = .returned (.bool r) ∧ (r = true ↔ ∃ j, j < n ∧ ps j = true) ∧ ∃ q, w' = w.drewN q := by
 have mixed := L.mixed; have t0 := L.t0; have a0 := L.a0; have z0 := L.z0; have v0 := L.v0; have t3 := L.t3; have a3 := L.a3; have z3 := L.z3; have v3 := L.v3; have t4 := L.t4; have a4 := L.a4; have z4 := L.z4; have v4 := L.v4; have t22 := L.t22; have a22 := L.a22; have z22 := L.z22; have v22 := L.v22; have a23 := L.a23; have z23 := L.z23; have t25 := L.t25; have a25 := L.a25; have z25 := L.z25; have v25 := L.v25
 have e6 : ∀ args w, (callFunc (ρ.f 6) args).run P w = .ok (.enter (ρ.f 6) args) w := L.f6.enters rfl
 have HC := Aside0.mk hcell
 have HF := Aside0.mk hcall
 clear hcell hcall
 obtain ⟨_, _, FG⟩ := L.f8
 go_enter FG, SlBodyH.n8_ntmps ρ
 go_wp2_with (go_at_fn (ρ.f 6); refine (anyIdx { L with } ad n c vs ps g lb _ eg hbig HC.out HF.out).mono ?_; rintro e w' ⟨i, rfl, hi, q, rfl⟩)
 go_ret
 exact ⟨_, rfl, decide_eq_true_iff, q, rfl⟩
end Go.Proofs.YtgcgecbdmomceaaDoor.A

/-
  DERIVED: THE SHELF's CONTRACTS AT THIS DUMP, IN PLAIN WORDS (tools/lay-plain.mjs out of 'YtgcgecbdmomceaaDoorShelfH.lean', which tools/lay-shelf.mjs wrote): THE SAME DECLARATIONS UNDER THE SAME NAMES: 'import', 'namespace', 'open', 'def', 'theorem' AND NOTHING ELSE: no command of the shelf's: FOR A HAND-IN. Each laying: the table of numbers ('.._ren') and one theorem, a field a fact of the dump's own or the kernel's comparison; each contract: ONE APPLICATION.
-/
namespace Go.Proofs
open Go.Shelf
def Tryd.hasL_ren : Go.Shelf.Ren := ⟨fun | 8 => 42 | 6 => 64 | n => n, fun | 22 => 22 | 23 => 24 | 25 => 37 | 4 => 4 | 3 => 3 | 0 => 0 | n => n, fun | n => n⟩
theorem Tryd.hasL : Go.Proofs.SlLaysH.n8 Tryd.prog Tryd.hasL_ren := {
 mixed := by kernel_rfl
 f6 := ⟨Tryd.f64.name, by decide, Tryd.func64.trans (congrArg some (by kernel_rfl))⟩
 f8 := ⟨Tryd.f42.name, by decide, Tryd.func42.trans (congrArg some (by kernel_rfl))⟩
 t0 := Tryd.underlying0
 a0 := Tryd.isAgg0
 z0 := Tryd.sizeOf0
 v0 := Tryd.zeroValue0
 t3 := Tryd.underlying3
 a3 := Tryd.isAgg3
 z3 := Tryd.sizeOf3
 v3 := Tryd.zeroValue3
 t4 := Tryd.underlying4
 a4 := Tryd.isAgg4
 z4 := Tryd.sizeOf4
 v4 := Tryd.zeroValue4
 t22 := Tryd.underlying22
 a22 := Tryd.isAgg22
 z22 := Tryd.sizeOf22
 v22 := Tryd.zeroValue22
 a23 := Tryd.isAgg24
 z23 := Tryd.sizeOf24
 t25 := Tryd.underlying37
 a25 := Tryd.isAgg37
 z25 := Tryd.sizeOf37
 v25 := Tryd.zeroValue37 }
end Go.Proofs

/- IsSquare: slices.ContainsFunc over rows, with a function that has captured the table. -/
namespace Go.Proofs.YtgcgecbdmomceaaDoor.A
open Go.RowKit Go.Proofs.YtgcgecbdmomceaaDoorW.PrintWords Go.Proofs.YtgcgecbdmomceaaDoorW.PrintLast Go.Proofs.YtgcgecbdmomceaaDoorW.PrintMore
attribute [local go_sem] max2_int min2_int max_two min_two max_three min_three max_four min_four
set_option linter.unusedVariables false
set_option linter.unusedSimpArgs false

open Go.Shelf Go.Lib
def rowB (n : Nat) (x : List Int) : Bool := decide ((x.length : Int) = (n : Int)) && inR 0 1000000 x
def squareB (l0 : List (List Int)) : Bool := decide ((1 : Int) ≤ l0.length ∧ (l0.length : Int) ≤ 6) && l0.all (rowB l0.length)
def impl_IsSquare.f (l0 : List (List Int)) : Option Bool := if (l0.all fun x => decide (x.length ≤ 1048576)) = true ∧ l0.length ≤ 1048576 then some (squareB l0) else none
theorem sq_row (ad : Option Addr) (B : Nat) (n : Nat) (A0 : Option Addr) (c0 cx : Nat) (x : List Int) (W : World) (hx : x.length ≤ 1048576) (hB : W.cell? ⟨B, 0, none⟩ = some (.slice A0 n c0)) (hr : Kd.C (Kd.int .i64) W ad x.length x) (hc : x.length ≤ cx) :
 Calls Tryd.prog 43 #[.slice ad x.length cx, .pointer (some ⟨B, 0, none⟩)] W fun e w' => e = .returned (.bool (!rowB n x)) ∧ ∃ q, w' = W.drewN q := by
 obtain ⟨k, hk⟩ := Ev.get (allWithin_ev x 0 1000000 (by omega))
 have HR := Aside0.mk hr
 have HC := Aside0.mk hc
 have HK := Aside0.mk hk
 clear hr hc hk
 have hdef : rowB n x = (decide ((x.length : Int) = (n : Int)) && inR 0 1000000 x) := rfl
 rw [hdef]
 have HX := Aside0.mk hx
 clear hdef hx
 by_cases h : (x.length : Int) = (n : Int)
 · have h1 : ((x.length : Int) != (n : Int)) = false := bne_eq_false_iff_eq.mpr h
   rw [decide_eq_true h]
   have HH := Aside0.mk h
   clear h
   go_enter Tryd.func43, Tryd.ntmps43
   go_wp2_with (go_at_call 44; refine (impl_allWithin.calls k _ _ x 0 1000000 _ _ ?side1 ?side2 HK.out).mono ?_; (case side1 => repeat (first | exact HR.out | (with_reducible refine Kd.C_alloc ?_ _) | (with_reducible refine Kd.C_drewN ?_ _) | (with_reducible refine Kd.C_drew ?_))); (case side2 => exact HC.out); rintro e w' ⟨rfl, ⟨nd, rfl⟩⟩)
   go_ret
   exact ⟨by simp, _, rfl⟩
 · have h1 : ((x.length : Int) != (n : Int)) = true := bne_iff_ne.mpr h
   rw [decide_eq_false h]
   have HH := Aside0.mk h
   clear h
   go_enter Tryd.func43, Tryd.ntmps43
   go_wp2
   go_ret
   exact ⟨by simp, 0, rfl⟩
theorem rowsAt {w : World} {ad : Addr} {l0 : List (List Int)} (hr0 : Kd.C (Kd.slice 3 (Kd.int .i64)) w (some ad) l0.length l0) : ∃ vs : Nat → Value, ∀ j, j < l0.length → w.cell? (ad.add j) = some (vs j) ∧ ∃ A c, vs j = .slice A (l0.getD j []).length c ∧ (l0.getD j []).length ≤ c ∧ Kd.C (Kd.int .i64) w A (l0.getD j []).length (l0.getD j []) := by
 have hrows : ∀ j, j < l0.length → ∃ v : Value, w.cell? (ad.add j) = some v ∧ ∃ A c, v = .slice A (l0.getD j []).length c ∧ (l0.getD j []).length ≤ c ∧ Kd.C (Kd.int .i64) w A (l0.getD j []).length (l0.getD j []) := fun j hj => by
  obtain ⟨ad', A, c, he, hcell, hle, hC⟩ := at_L1 hr0 (j : Int) (by omega) (by omega)
  cases he
  exact ⟨_, hcell, A, c, rfl, hle, hC⟩
 exact ⟨fun j => if h : j < l0.length then Classical.choose (hrows j h) else .bool false, fun j h => by
  simp only [dif_pos h]
  exact Classical.choose_spec (hrows j h)⟩
set_option maxHeartbeats 4000000 in
set_option maxRecDepth 100000 in
theorem impl_IsSquare.calls (A0 : Option Addr) (c0 : Nat) (l0 : List (List Int)) (r : Bool) (w : World) (hr0 : Kd.C (Kd.slice 3 (Kd.int .i64)) w A0 l0.length l0) (hc0 : l0.length ≤ c0) (h : impl_IsSquare.f l0 = some r) :
 Calls Tryd.prog 21 #[.slice A0 l0.length c0] w fun e w' => e = .returned (.bool r) ∧ Below w.heap.size w w' := by
 unfold impl_IsSquare.f at h
 split at h
 next hb =>
  have hr := Option.some.inj h
  clear h
  obtain ⟨hb1, hb2⟩ := hb
  have HW := Aside0.mk (within_eq (l0.length : Int) 1 6)
  by_cases hw : (1 : Int) ≤ l0.length ∧ (l0.length : Int) ≤ 6
  · obtain ⟨ad, _, _, hA, _⟩ := at_L1 hr0 0 (by omega) (by omega)
    subst hA
    obtain ⟨vs, hvs⟩ := rowsAt hr0
    have eg : ∀ args w, (callFunc 43 args).run Tryd.prog w = .ok (.enter 43 args) w := enters_of Tryd.func43 (by kernel_rfl) rfl
    have hcon := fun q => anyHas Tryd.hasL ad l0.length c0 vs (fun j => !rowB l0.length (l0.getD j [])) 43 #[.pointer (some ⟨w.heap.size, 0, none⟩)] ((w.alloc (.cells #[.slice (some ad) l0.length c0] 22)).drewN q) eg (by omega)
     (fun j hj => pw_cell_below (pw_below_drewN (below_alloc (Below.refl _ _) _) q) (hvs j hj).1)
     (fun j hj q' => by
      obtain ⟨A, c, hv, hle, hC⟩ := (hvs j hj).2
      rw [hv]
      have hm : l0.getD j [] ∈ l0 := by
       rw [List.getD_eq_getElem?_getD, List.getElem?_eq_getElem hj]
       exact List.getElem_mem hj
      have hx : (l0.getD j []).length ≤ 1048576 := by simpa using List.all_eq_true.1 hb1 _ hm
      exact sq_row A w.heap.size l0.length (some ad) c0 c (l0.getD j []) _ hx (by show (w.alloc (.cells #[.slice (some ad) l0.length c0] 22)).cell? ⟨w.heap.size, 0, none⟩ = _; simp) (Kd.C_below hC (pw_below_drewN (pw_below_drewN (below_alloc (Below.refl _ _) _) q) q')) hle)
    have HCON := Aside0.mk (show ∀ q, Calls Tryd.prog 42 #[.slice (some ad) l0.length c0, .func (.func 43) #[] #[.pointer (some ⟨w.heap.size, 0, none⟩)]] ((w.alloc (.cells #[.slice (some ad) l0.length c0] 22)).drewN q) (fun e w' => ∃ r : Bool, e = .returned (.bool r) ∧ (r = true ↔ ∃ j, j < l0.length ∧ (!rowB l0.length (l0.getD j [])) = true) ∧ ∃ q', w' = ((w.alloc (.cells #[.slice (some ad) l0.length c0] 22)).drewN q).drewN q') from hcon)
    have HD := Aside0.mk (show impl_within.f (l0.length : Int) 1 6 = some true by rw [HW.out, decide_eq_true hw])
    have HR := Aside0.mk hr
    have HL := Aside0.mk hb2
    have HX := Aside0.mk hw
    clear hcon hvs eg hr hb1 hb2 hw hr0 hc0
    go_enter Tryd.func21, Tryd.ntmps21
    go_wp2_with (first | (go_at_call 41; refine (impl_within.calls (l0.length : Int) 1 6 true _ HD.out).mono ?_; rintro e w' ⟨rfl, ⟨nd, rfl⟩⟩) | (go_at_call 42; refine (HCON.out _).mono ?_; rintro e w' ⟨rb, rfl, hi, q, rfl⟩; have HI := Aside0.mk hi; clear hi))
    go_ret
    refine ⟨?_, by repeat (first | exact Below.refl _ _ | apply below_alloc | apply pw_below_drewN | apply below_drew1)⟩
    have e : (!rb) = r := by
     rw [← HR.out]
     unfold squareB
     rw [decide_eq_true HX.out, Bool.true_and, Bool.eq_iff_iff, Bool.not_eq_true', List.all_eq_true]
     constructor
     · intro hf x hx
       obtain ⟨j, hj, rfl⟩ := List.mem_iff_getElem.1 hx
       cases hq : rowB l0.length l0[j] with
       | true => rfl
       | false =>
        have : rb = true := HI.out.2 ⟨j, hj, by rw [List.getD_eq_getElem?_getD, List.getElem?_eq_getElem hj]; simp [hq]⟩
        rw [this] at hf
        cases hf
     · intro ha
       cases hrb : rb with
       | false => rfl
       | true =>
        obtain ⟨j, hj, hn⟩ := HI.out.1 hrb
        have := ha _ (List.getElem_mem hj)
        rw [List.getD_eq_getElem?_getD, List.getElem?_eq_getElem hj] at hn
        simp [this] at hn
    rw [← e]
    rfl
  · have HD := Aside0.mk (show impl_within.f (l0.length : Int) 1 6 = some false by rw [HW.out, decide_eq_false hw])
    have e : r = false := by
     rw [← hr]
     unfold squareB
     rw [decide_eq_false hw, Bool.false_and]
    subst e
    clear hr hb1 hw hr0 hc0 HW
    go_enter Tryd.func21, Tryd.ntmps21
    go_wp2_with (go_at_call 41; refine (impl_within.calls (l0.length : Int) 1 6 false _ HD.out).mono ?_; rintro e w' ⟨rfl, ⟨nd, rfl⟩⟩)
    go_ret
    exact ⟨rfl, by repeat (first | exact Below.refl _ _ | apply below_alloc | apply pw_below_drewN | apply below_drew1)⟩
 next => cases h
end Go.Proofs.YtgcgecbdmomceaaDoor.A

-- made by a program of this repo (wip/pp.py) through the kit's printer
namespace Go.Proofs.YtgcgecbdmomceaaDoor.A
open Go.RowKit Go.Proofs.YtgcgecbdmomceaaDoorW.PrintWords Go.Proofs.YtgcgecbdmomceaaDoorW.PrintLast Go.Proofs.YtgcgecbdmomceaaDoorW.PrintMore
attribute [local go_sem] max2_int min2_int max_two min_two max_three min_three max_four min_four
set_option linter.unusedVariables false
set_option linter.unusedSimpArgs false

/-! ### impl_EqualSum: function 27 -/
def impl_EqualSum.f (k : Nat) (l0 : List (List Int)) : Option (Int × Bool) := (impl_IsSquare.f l0).bind fun t354 => (if t354 = true then ((impl_equalSum.f k l0).bind fun bt355 => (some (bt355.1, bt355.2))) else (some (0, false)))
set_option maxHeartbeats 8000000 in
set_option maxRecDepth 100000 in
theorem impl_EqualSum.calls (k : Nat) (A0 : Option Addr) (c0 : Nat) (l0 : List (List Int)) (r1 : Int) (r2 : Bool) (w : World) (hr0 : Kd.C (Kd.slice 3 (Kd.int .i64)) w A0 l0.length l0) (hc0 : l0.length ≤ c0) (h : impl_EqualSum.f k l0 = some (r1, r2)) :
 Calls Tryd.prog 27 #[.slice A0 l0.length c0] w fun e w' => e = .returned (.tuple #[.int .i64 r1, .bool r2]) ∧ Below w.heap.size w w' := by
 have HR0 := Aside0.mk hr0
 have HC0 := Aside0.mk hc0
 clear hr0 hc0
 have HB := Aside0.mk (Below.refl w.heap.size w)
 have H : ((impl_IsSquare.f l0).bind fun t354 => (if t354 = true then ((impl_equalSum.f k l0).bind fun bt355 => (some (bt355.1, bt355.2))) else (some (0, false)))) = some (r1, r2) := h
 clear h
 replace H := Option.bind_eq_some_iff.mp H
 obtain ⟨t354, A20, H⟩ := H
 replace H : (if t354 = true then ((impl_equalSum.f k l0).bind fun bt355 => (some (bt355.1, bt355.2))) else (some (0, false))) = some (r1, r2) := H
 have A2 := Aside0.mk A20
 clear A20
 by_cases c3 : t354 = true
 · subst c3
   have H1 : ((impl_equalSum.f k l0).bind fun bt355 => (some (bt355.1, bt355.2))) = some (r1, r2) := by rw [if_pos rfl] at H; exact H
   clear H
   have H := H1
   clear H1
   replace H := Option.bind_eq_some_iff.mp H
   obtain ⟨⟨t355, t356⟩, A40, H⟩ := H
   replace H : (some (t355, t356)) = some (r1, r2) := H
   have A4 := Aside0.mk A40
   clear A40
   simp only [Option.some.injEq, Prod.mk.injEq] at H
   obtain ⟨rfl, rfl⟩ := H
   go_enter Tryd.func27, Tryd.ntmps27
   go_wp2_with (first | ((with_reducible refine gate_callee (f := 21) rfl ?_); refine goesL_ (some 5) rfl rfl Tryd.func21 (by kernel_rfl) rfl #[.slice A0 l0.length c0] rfl (by (try simp only [List.map_toArray, List.map_cons, List.map_nil]); first | done | rfl | (simp only [List.length_drop, List.length_take]; rfl)) ?_; (with_reducible refine (impl_IsSquare.calls _ _ l0 true _ ?side1 ?side2 A2.out).mono ?_); (case side1 => repeat (first | exact HR0.out | (with_reducible refine Kd.C_alloc ?_ _) | (with_reducible refine Kd.C_drewN ?_ _) | (with_reducible refine Kd.C_drew ?_))); (case side2 => exact HC0.out); rintro e w5 ⟨rfl, hb⟩; refine ⟨_, rfl, ?_⟩; have n0_ := Aside0.mk (below_step (by repeat (first | (with_reducible first | exact HB.out | apply below_alloc | apply pw_below_drewN | apply below_drew1) | exact HB.out)) hb); clear HB; have HB := n0_; clear n0_; (try clear hb); (try clear hb2); (try clear hk); (try clear hi)) | ((with_reducible refine gate_callee (f := 51) rfl ?_); refine goesL_ (some 8) rfl rfl Tryd.func51 (by kernel_rfl) rfl #[.slice A0 l0.length c0] rfl (by (try simp only [List.map_toArray, List.map_cons, List.map_nil]); first | done | rfl | (simp only [List.length_drop, List.length_take]; rfl)) ?_; (with_reducible refine (impl_equalSum.calls k _ _ l0 t355 t356 _ ?side1 ?side2 A4.out).mono ?_); (case side1 => repeat (first | exact (Kd.C_below HR0.out HB.out) | (with_reducible refine Kd.C_alloc ?_ _) | (with_reducible refine Kd.C_drewN ?_ _) | (with_reducible refine Kd.C_drew ?_))); (case side2 => exact HC0.out); rintro e w' ⟨rfl, ⟨nd, rfl⟩⟩; refine ⟨_, rfl, ?_⟩))
   go_ret2
   exact ⟨by first | rfl | (simp [errW_none, errW_some] <;> rfl) | (simp [*, errW_none, errW_some] <;> rfl), by repeat (first | (with_reducible first | exact HB.out | apply below_alloc | apply pw_below_drewN | apply below_drew1) | exact HB.out)⟩
 · replace c3 := Bool.eq_false_iff.mpr c3
   subst c3
   have H1 : (some (0, false)) = some (r1, r2) := by rw [if_neg (show ¬ (false = true) by decide)] at H; exact H
   clear H
   have H := H1
   clear H1
   simp only [Option.some.injEq, Prod.mk.injEq] at H
   obtain ⟨rfl, rfl⟩ := H
   go_enter Tryd.func27, Tryd.ntmps27
   go_wp2_with (first | ((with_reducible refine gate_callee (f := 21) rfl ?_); refine goesL_ (some 5) rfl rfl Tryd.func21 (by kernel_rfl) rfl #[.slice A0 l0.length c0] rfl (by (try simp only [List.map_toArray, List.map_cons, List.map_nil]); first | done | rfl | (simp only [List.length_drop, List.length_take]; rfl)) ?_; (with_reducible refine (impl_IsSquare.calls _ _ l0 false _ ?side1 ?side2 A2.out).mono ?_); (case side1 => repeat (first | exact HR0.out | (with_reducible refine Kd.C_alloc ?_ _) | (with_reducible refine Kd.C_drewN ?_ _) | (with_reducible refine Kd.C_drew ?_))); (case side2 => exact HC0.out); rintro e w6 ⟨rfl, hb⟩; refine ⟨_, rfl, ?_⟩; have n0_ := Aside0.mk (below_step (by repeat (first | (with_reducible first | exact HB.out | apply below_alloc | apply pw_below_drewN | apply below_drew1) | exact HB.out)) hb); clear HB; have HB := n0_; clear n0_; (try clear hb); (try clear hb2); (try clear hk); (try clear hi)))
   go_ret2
   exact ⟨by first | rfl | (simp [errW_none, errW_some] <;> rfl) | (simp [*, errW_none, errW_some] <;> rfl), by repeat (first | (with_reducible first | exact HB.out | apply below_alloc | apply pw_below_drewN | apply below_drew1) | exact HB.out)⟩

end Go.Proofs.YtgcgecbdmomceaaDoor.A

-- made by a program of this repo (wip/pp.py) through the kit's printer
namespace Go.Proofs.YtgcgecbdmomceaaDoor.A
open Go.RowKit Go.Proofs.YtgcgecbdmomceaaDoorW.PrintWords Go.Proofs.YtgcgecbdmomceaaDoorW.PrintLast Go.Proofs.YtgcgecbdmomceaaDoorW.PrintMore
attribute [local go_sem] max2_int min2_int max_two min_two max_three min_three max_four min_four
set_option linter.unusedVariables false
set_option linter.unusedSimpArgs false

/-! ### spec_doRefuses: function 54 -/
mutual
def spec_doRefuses.l0 : Nat → List (List Int) → List Int → Int → Int → Int → Option (Bool)
 | 0, _, _, _, _, _ => none
 | k + 1, x0, x1, x5, x11, x12 => if x12 < x11 then (spec_doRefuses.l1 k x0 x1 x5 x12 false x11 x12 x1 (x1.length : Int) 0) else (some (decide (x5 < (x1.length : Int))))
def spec_doRefuses.l1 : Nat → List (List Int) → List Int → Int → Int → Bool → Int → Int → List Int → Int → Int → Option (Bool)
 | 0, _, _, _, _, _, _, _, _, _, _ => none
 | k + 1, x0, x1, x5, x6, x7, x11, x12, x15, x16, x17 => if x17 < x16 then (if 0 ≤ x17 then (if x17 < (x15.length : Int) then (if x7 = true then (spec_doRefuses.l1 k x0 x1 x5 x6 true x11 x12 x15 x16 (wrap64 (x17 + 1))) else (if 0 ≤ (rd x15 x17) then (if (rd x15 x17) < (x0.length : Int) then (if 0 ≤ x6 then (if x6 < ((rd_L1 x0 (rd x15 x17)).length : Int) then (spec_doRefuses.l1 k x0 x1 x5 x6 (decide ((rd (rd_L1 x0 (rd x15 x17)) x6) > 0)) x11 x12 x15 x16 (wrap64 (x17 + 1))) else (none)) else (none)) else (none)) else (none))) else (none)) else (none)) else (if x7 = true then (spec_doRefuses.l0 k x0 x1 (wrap64 (x5 + 1)) x11 (wrap64 (x12 + 1))) else (spec_doRefuses.l0 k x0 x1 x5 x11 (wrap64 (x12 + 1))))
end
def spec_doRefuses.f (k : Nat) (l0 : List (List Int)) (l1 : List Int) : Option (Bool) := spec_doRefuses.l0 k l0 l1 0 (l0.length : Int) 0
set_option maxHeartbeats 8000000 in
set_option maxRecDepth 100000 in
theorem spec_doRefuses.calls (k : Nat) (A0 : Option Addr) (c0 : Nat) (l0 : List (List Int)) (A1 : Option Addr) (c1 : Nat) (l1 : List Int) (r : Bool) (w : World) (hr0 : Kd.C (Kd.slice 3 (Kd.int .i64)) w A0 l0.length l0) (hc0 : l0.length ≤ c0) (hr1 : Kd.C (Kd.int .i64) w A1 l1.length l1) (hc1 : l1.length ≤ c1) (h : spec_doRefuses.f k l0 l1 = some r) :
 Calls Tryd.prog 54 #[.slice A0 l0.length c0, .slice A1 l1.length c1] w fun e w' => e = .returned (.bool r) ∧ Drawn0 w w' := by
 have HR0 := Aside0.mk hr0
 have HC0 := Aside0.mk hc0
 clear hr0 hc0
 have HR1 := Aside0.mk hr1
 have HC1 := Aside0.mk hc1
 clear hr1 hc1
 have H : (spec_doRefuses.l0 k l0 l1 0 (l0.length : Int) 0) = some r := h
 clear h
 have H' := Aside0.mk H
 clear H
 go_enter Tryd.func54, Tryd.ntmps54
 go_wp2
 go_loopg [5, 12] k (fun kq v5 v12 w' => ∃ (x5_1 : Int) (x12_1 : Int), v5 = .int .i64 x5_1 ∧ v12 = .int .i64 x12_1 ∧ Aside0 (spec_doRefuses.l0 kq l0 l1 x5_1 (l0.length : Int) x12_1 = some r) ∧ Aside0 (kq ≤ k) ∧ Drawn0 w w')
 case atStart => exact ⟨(0), (0), (by first | rfl | (simp; done) | (simp [*]; done)), (by first | rfl | (simp; done) | (simp [*]; done)), H', ⟨Nat.le_refl _⟩, by repeat (first | exact Drawn0.refl _ | apply Drawn0.step)⟩
 case round =>
  clear H'
  try clear c1
  try clear p2
  obtain ⟨x5_1, x12_1, rfl, rfl, HA, HK1, ⟨m1, rfl⟩⟩ := hrel
  cases gk with
  | zero => exact absurd HA.out (by simp [spec_doRefuses.l0])
  | succ k1 =>
   have H := HA.out
   clear HA
   simp only [spec_doRefuses.l0] at H
   by_cases c3 : x12_1 < (l0.length : Int)
   · rw [if_pos c3] at H
     have c3b0 : decide (x12_1 < (l0.length : Int)) = true := decide_eq_true c3
     clear c3
     have H' := Aside0.mk H
     clear H
     go_wp2
     go_loopg [7, 17] k1 (fun kq v7 v17 w' => ∃ (x7_2 : Bool) (x17_2 : Int), v7 = .bool x7_2 ∧ v17 = .int .i64 x17_2 ∧ Aside0 (spec_doRefuses.l1 kq l0 l1 x5_1 x12_1 x7_2 (l0.length : Int) x12_1 l1 (l1.length : Int) x17_2 = some r) ∧ Aside0 (kq ≤ k1) ∧ Drawn0 w w')
     case atStart => exact ⟨(false), (0), (by first | rfl | (simp; done) | (simp [*]; done)), (by first | rfl | (simp; done) | (simp [*]; done)), H', ⟨Nat.le_refl _⟩, by repeat (first | exact Drawn0.refl _ | apply Drawn0.step)⟩
     case round =>
      clear H'
      try clear c1
      try clear p2
      try clear c3
      try clear c3b0
      try clear p2
      obtain ⟨x7_2, x17_2, rfl, rfl, HA, HK2, ⟨m2, rfl⟩⟩ := hrel
      cases gk with
      | zero => exact absurd HA.out (by simp [spec_doRefuses.l1])
      | succ k2 =>
       have H := HA.out
       clear HA
       simp only [spec_doRefuses.l1] at H
       by_cases c4 : x17_2 < (l1.length : Int)
       · rw [if_pos c4] at H
         have c4b0 : decide (x17_2 < (l1.length : Int)) = true := decide_eq_true c4
         clear c4
         by_cases c5 : 0 ≤ x17_2
         · rw [if_pos c5] at H
           have c5b0 : decide (0 ≤ x17_2) = true := decide_eq_true c5
           clear c5
           by_cases c6 : x17_2 < (l1.length : Int)
           · rw [if_pos c6] at H
             have c6b0 : decide (x17_2 < (l1.length : Int)) = true := decide_eq_true c6
             clear c6
             by_cases c7 : x7_2 = true
             · subst c7
               have H1 : (spec_doRefuses.l1 k2 l0 l1 x5_1 x12_1 true (l0.length : Int) x12_1 l1 (l1.length : Int) (wrap64 (x17_2 + 1))) = some r := by rw [if_pos rfl] at H; exact H
               clear H
               have H := H1
               clear H1
               have H' := Aside0.mk H
               clear H
               have p108 : 0 ≤ (x17_2 : Int) := of_decide_eq_true (by first | (with_reducible assumption) | assumption)
               have q108 : x17_2 < (l1.length : Int) := of_decide_eq_true (by first | (with_reducible assumption) | assumption)
               obtain ⟨ad108, e108, hx108_0⟩ := Kd.at_int HR1.out x17_2 p108 q108
               cases e108
               replace p108 := eq_true p108
               replace q108 := eq_true q108
               go_wp2
               go_roundg k2
               case measure => have := HK1.out; have := HK2.out; omega
               case rel => exact ⟨(true), (wrap64 (x17_2 + 1)), (by first | rfl | (simp; done) | (simp [*]; done)), (by first | rfl | (simp; done) | (simp [*]; done)), H', ⟨by have := HK1.out; have := HK2.out; omega⟩, by repeat (first | exact Drawn0.refl _ | apply Drawn0.step)⟩
             · replace c7 := Bool.eq_false_iff.mpr c7
               subst c7
               have H1 : (if 0 ≤ (rd l1 x17_2) then (if (rd l1 x17_2) < (l0.length : Int) then (if 0 ≤ x12_1 then (if x12_1 < ((rd_L1 l0 (rd l1 x17_2)).length : Int) then (spec_doRefuses.l1 k2 l0 l1 x5_1 x12_1 (decide ((rd (rd_L1 l0 (rd l1 x17_2)) x12_1) > 0)) (l0.length : Int) x12_1 l1 (l1.length : Int) (wrap64 (x17_2 + 1))) else (none)) else (none)) else (none)) else (none)) = some r := by rw [if_neg (show ¬ (false = true) by decide)] at H; exact H
               clear H
               have H := H1
               clear H1
               by_cases c8 : 0 ≤ (rd l1 x17_2)
               · rw [if_pos c8] at H
                 have c8b0 : decide (0 ≤ (rd l1 x17_2)) = true := decide_eq_true c8
                 clear c8
                 by_cases c9 : (rd l1 x17_2) < (l0.length : Int)
                 · rw [if_pos c9] at H
                   have c9b0 : decide ((rd l1 x17_2) < (l0.length : Int)) = true := decide_eq_true c9
                   clear c9
                   by_cases c10 : 0 ≤ x12_1
                   · rw [if_pos c10] at H
                     have c10b0 : decide (0 ≤ x12_1) = true := decide_eq_true c10
                     clear c10
                     by_cases c11 : x12_1 < ((rd_L1 l0 (rd l1 x17_2)).length : Int)
                     · rw [if_pos c11] at H
                       have c11b0 : decide (x12_1 < ((rd_L1 l0 (rd l1 x17_2)).length : Int)) = true := decide_eq_true c11
                       clear c11
                       have H' := Aside0.mk H
                       clear H
                       have p108 : 0 ≤ (x17_2 : Int) := of_decide_eq_true (by first | (with_reducible assumption) | assumption)
                       have q108 : x17_2 < (l1.length : Int) := of_decide_eq_true (by first | (with_reducible assumption) | assumption)
                       obtain ⟨ad108, e108, hx108_0⟩ := Kd.at_int HR1.out x17_2 p108 q108
                       cases e108
                       replace p108 := eq_true p108
                       replace q108 := eq_true q108
                       have p109 : 0 ≤ ((rd l1 x17_2) : Int) := of_decide_eq_true (by first | (with_reducible assumption) | assumption)
                       have q109 : (rd l1 x17_2) < (l0.length : Int) := of_decide_eq_true (by first | (with_reducible assumption) | assumption)
                       obtain ⟨ad109, A109_0, c109_0, e109, hx109_0, hl109_0, hi109_0⟩ := at_L1 HR0.out (rd l1 x17_2) p109 q109
                       cases e109
                       have HR109_0 := Aside0.mk hi109_0
                       have HC109_0 := Aside0.mk hl109_0
                       clear hi109_0 hl109_0
                       replace p109 := eq_true p109
                       replace q109 := eq_true q109
                       have p110 : 0 ≤ (x12_1 : Int) := of_decide_eq_true (by first | (with_reducible assumption) | assumption)
                       have q110 : x12_1 < ((rd_L1 l0 (rd l1 x17_2)).length : Int) := of_decide_eq_true (by first | (with_reducible assumption) | assumption)
                       obtain ⟨ad110, e110, hx110_0⟩ := Kd.at_int HR109_0.out x12_1 p110 q110
                       cases e110
                       replace p110 := eq_true p110
                       replace q110 := eq_true q110
                       go_wp2
                       go_roundg k2
                       case measure => have := HK1.out; have := HK2.out; omega
                       case rel => exact ⟨(decide ((rd (rd_L1 l0 (rd l1 x17_2)) x12_1) > 0)), (wrap64 (x17_2 + 1)), (by first | rfl | (simp; done) | (simp [*]; done)), (by first | rfl | (simp; done) | (simp [*]; done)), H', ⟨by have := HK1.out; have := HK2.out; omega⟩, by repeat (first | exact Drawn0.refl _ | apply Drawn0.step)⟩
                     · rw [if_neg c11] at H
                       exact absurd H (by simp)
                   · rw [if_neg c10] at H
                     exact absurd H (by simp)
                 · rw [if_neg c9] at H
                   exact absurd H (by simp)
               · rw [if_neg c8] at H
                 exact absurd H (by simp)
           · rw [if_neg c6] at H
             exact absurd H (by simp)
         · rw [if_neg c5] at H
           exact absurd H (by simp)
       · rw [if_neg c4] at H
         have c4b0 : decide (x17_2 < (l1.length : Int)) = false := decide_eq_false c4
         clear c4
         by_cases c12 : x7_2 = true
         · subst c12
           have H1 : (spec_doRefuses.l0 k2 l0 l1 (wrap64 (x5_1 + 1)) (l0.length : Int) (wrap64 (x12_1 + 1))) = some r := by rw [if_pos rfl] at H; exact H
           clear H
           have H := H1
           clear H1
           have H' := Aside0.mk H
           clear H
           go_wp2
           go_roundg k2
           case measure => have := HK1.out; have := HK2.out; omega
           case rel => exact ⟨(wrap64 (x5_1 + 1)), (wrap64 (x12_1 + 1)), (by first | rfl | (simp; done) | (simp [*]; done)), (by first | rfl | (simp; done) | (simp [*]; done)), H', ⟨by have := HK1.out; have := HK2.out; omega⟩, by repeat (first | exact Drawn0.refl _ | apply Drawn0.step)⟩
         · replace c12 := Bool.eq_false_iff.mpr c12
           subst c12
           have H1 : (spec_doRefuses.l0 k2 l0 l1 x5_1 (l0.length : Int) (wrap64 (x12_1 + 1))) = some r := by rw [if_neg (show ¬ (false = true) by decide)] at H; exact H
           clear H
           have H := H1
           clear H1
           have H' := Aside0.mk H
           clear H
           go_wp2
           go_roundg k2
           case measure => have := HK1.out; have := HK2.out; omega
           case rel => exact ⟨(x5_1), (wrap64 (x12_1 + 1)), (by first | rfl | (simp; done) | (simp [*]; done)), (by first | rfl | (simp; done) | (simp [*]; done)), H', ⟨by have := HK1.out; have := HK2.out; omega⟩, by repeat (first | exact Drawn0.refl _ | apply Drawn0.step)⟩
   · rw [if_neg c3] at H
     have c3b0 : decide (x12_1 < (l0.length : Int)) = false := decide_eq_false c3
     clear c3
     obtain rfl := Option.some.inj H
     go_wp2
     go_ret
     exact ⟨by first | rfl | (simp; done) | (simp [*]; done), by repeat (first | exact Drawn0.refl _ | apply Drawn0.step)⟩

end Go.Proofs.YtgcgecbdmomceaaDoor.A

-- made by a program of this repo (wip/pp.py) through the kit's printer
namespace Go.Proofs.YtgcgecbdmomceaaDoor.A
open Go.RowKit Go.Proofs.YtgcgecbdmomceaaDoorW.PrintWords Go.Proofs.YtgcgecbdmomceaaDoorW.PrintLast Go.Proofs.YtgcgecbdmomceaaDoorW.PrintMore
attribute [local go_sem] max2_int min2_int max_two min_two max_three min_three max_four min_four
set_option linter.unusedVariables false
set_option linter.unusedSimpArgs false

/-! ### spec_doRows: function 30 -/
mutual
def spec_doRows.l0 : Nat → List (List Int) → List Int → Int → Int → Option (List Int)
 | 0, _, _, _, _ => none
 | k + 1, x0, x1, x3, x9 => if x9 < (x0.length : Int) then ((spec_l1Own.f x1).bind fun t118 => (if t118.length < 17592186044416 then ((spec_doRows.f k x0 (t118 ++ [x9]) (wrap64 (x9 + 1)) (wrap64 (x3 - 1))).bind fun t124 => (if (t124.length : Int) > 0 then (some t124) else (spec_doRows.l0 k x0 x1 x3 (wrap64 (x9 + 1))))) else (none))) else (some ([] : List Int))
def spec_doRows.f : Nat → List (List Int) → List Int → Int → Int → Option (List Int)
 | 0, _, _, _, _ => none
 | k + 1, l0, l1, a2, a3 => if a3 = 0 then ((spec_doRefuses.f k l0 l1).bind fun t117 => (if t117 = true then (some l1) else (some ([] : List Int)))) else (spec_doRows.l0 k l0 l1 a3 a2)
end
set_option maxHeartbeats 8000000 in
set_option maxRecDepth 100000 in
theorem spec_doRows.calls (k : Nat) : ∀ (A0 : Option Addr) (c0 : Nat) (l0 : List (List Int)) (P1_ : Nat → Prop) (u9000_ : Value) (l1 : List Int) (a2 : Int) (a3 : Int) (r : List Int) (w0 w : World) (hB : Below w0.heap.size w0 w) (hr0 : ∀ W_, Kept w W_ (fun k_ => P1_ k_) → Kd.C (Kd.slice 3 (Kd.int .i64)) W_ A0 l0.length l0) (hc0 : l0.length ≤ c0) (ho1 : Kd.R (Kd.int .i64) 3 w w0.heap.size P1_ u9000_ l1) (h : spec_doRows.f k l0 l1 a2 a3 = some r),
 Calls Tryd.prog 30 #[.slice A0 l0.length c0, u9000_, .int .i64 a2, .int .i64 a3] w fun e w' => ∃ v0_ : Value, e = .returned (v0_) ∧ Kd.R (Kd.int .i64) 3 w' w0.heap.size (fun k_ => (P1_ k_ ∨ w.heap.size ≤ k_)) v0_ r ∧ Below w0.heap.size w0 w' ∧ Kept w w' (fun k_ => P1_ k_) := by
 induction k using Nat.strongRecOn with
 | _ k ih =>
 intro A0 c0 l0 P1_ u9000_ l1 a2 a3 r w0 w hB hr0 hc0 ho1 h
 cases k with
 | zero => exact absurd h (by simp [spec_doRows.f])
 | succ k =>
 simp only [spec_doRows.f] at h
 have HR0 := Aside0.mk hr0
 have HC0 := Aside0.mk hc0
 clear hr0 hc0
 have HO1 := Aside0.mk (show Kd.R (Kd.int .i64) 3 w w0.heap.size (fun k_ => (P1_ k_ ∨ w.heap.size ≤ k_)) u9000_ l1 from Kd.R_mono ho1 (fun k_ hk => (.inl hk)))
 have HK := Aside0.mk (Kept.refl w (fun k_ => P1_ k_))
 have HW0 := Aside0.mk hB.size
 have HB := Aside0.mk hB
 clear hB
 have H : (if a3 = 0 then ((spec_doRefuses.f k l0 l1).bind fun t117 => (if t117 = true then (some l1) else (some ([] : List Int)))) else (spec_doRows.l0 k l0 l1 a3 a2)) = some r := h
 clear h
 by_cases c5 : a3 = 0
 · rw [if_pos c5] at H
   have c5b0 : (a3 == 0) = true := beq_iff_eq.mpr c5
   have c5b1 : (a3 != 0) = false := bne_eq_false_iff_eq.mpr c5
   clear c5
   replace H := Option.bind_eq_some_iff.mp H
   obtain ⟨t117, A60, H⟩ := H
   replace H : (if t117 = true then (some l1) else (some ([] : List Int))) = some r := H
   have A6 := Aside0.mk A60
   clear A60
   by_cases c7 : t117 = true
   · subst c7
     have H1 : (some l1) = some r := by rw [if_pos rfl] at H; exact H
     clear H
     have H := H1
     clear H1
     obtain rfl := Option.some.inj H
     obtain ⟨Ao8, co8, eo8⟩ := Kd.R_slice HO1.out
     subst eo8
     go_enter Tryd.func30, Tryd.ntmps30
     go_wp2_with (first | ((with_reducible refine gate_callee (f := 54) rfl ?_); refine goesL_ (some 15) rfl rfl Tryd.func54 (by kernel_rfl) rfl #[.slice A0 l0.length c0, .slice Ao8 l1.length co8] rfl (by (try simp only [List.map_toArray, List.map_cons, List.map_nil]); first | done | rfl | (simp only [List.length_drop, List.length_take]; rfl)) ?_; (with_reducible refine (spec_doRefuses.calls k _ _ l0 _ _ l1 true _ ?side1 ?side2 ?side3 ?side4 A6.out).mono ?_); (case side1 => exact Kd.C_kept_now HR0.out (by repeat (first | (with_reducible first | exact HK.out | apply Kept.alloc | apply Kept.drewN | apply Kept.drew) | exact HK.out))); (case side2 => exact HC0.out); (case side3 => repeat (first | exact (Kd.R_reads' HO1.out).2.2 | (with_reducible refine Kd.C_alloc ?_ _) | (with_reducible refine Kd.C_drewN ?_ _) | (with_reducible refine Kd.C_drew ?_))); (case side4 => exact (Kd.R_reads' HO1.out).2.1); rintro e w' ⟨rfl, ⟨nd, rfl⟩⟩; refine ⟨_, rfl, ?_⟩))
     go_ret
     exact ⟨_, by first | rfl | (simp [errW_none, errW_some] <;> rfl) | (simp [*, errW_none, errW_some] <;> rfl), by (with_reducible repeat (first | apply Kd.R_alloc | apply Kd.R_drewN | apply Kd.R_drew)); exact HO1.out, by repeat (first | (with_reducible first | exact HB.out | apply below_alloc | apply pw_below_drewN | apply below_drew1) | exact HB.out), by repeat (first | (with_reducible first | exact HK.out | apply Kept.alloc | apply Kept.drewN | apply Kept.drew) | exact HK.out)⟩
   · replace c7 := Bool.eq_false_iff.mpr c7
     subst c7
     have H1 : (some ([] : List Int)) = some r := by rw [if_neg (show ¬ (false = true) by decide)] at H; exact H
     clear H
     have H := H1
     clear H1
     obtain rfl := Option.some.inj H
     obtain ⟨Ao9, co9, eo9⟩ := Kd.R_slice HO1.out
     subst eo9
     go_enter Tryd.func30, Tryd.ntmps30
     go_wp2_with (first | ((with_reducible refine gate_callee (f := 54) rfl ?_); refine goesL_ (some 15) rfl rfl Tryd.func54 (by kernel_rfl) rfl #[.slice A0 l0.length c0, .slice Ao9 l1.length co9] rfl (by (try simp only [List.map_toArray, List.map_cons, List.map_nil]); first | done | rfl | (simp only [List.length_drop, List.length_take]; rfl)) ?_; (with_reducible refine (spec_doRefuses.calls k _ _ l0 _ _ l1 false _ ?side1 ?side2 ?side3 ?side4 A6.out).mono ?_); (case side1 => exact Kd.C_kept_now HR0.out (by repeat (first | (with_reducible first | exact HK.out | apply Kept.alloc | apply Kept.drewN | apply Kept.drew) | exact HK.out))); (case side2 => exact HC0.out); (case side3 => repeat (first | exact (Kd.R_reads' HO1.out).2.2 | (with_reducible refine Kd.C_alloc ?_ _) | (with_reducible refine Kd.C_drewN ?_ _) | (with_reducible refine Kd.C_drew ?_))); (case side4 => exact (Kd.R_reads' HO1.out).2.1); rintro e w' ⟨rfl, ⟨nd, rfl⟩⟩; refine ⟨_, rfl, ?_⟩))
     go_ret
     exact ⟨_, by first | rfl | (simp [errW_none, errW_some] <;> rfl) | (simp [*, errW_none, errW_some] <;> rfl), by first | exact Kd.R_nil _ _ _ _ _ | exact Kd.N_nil _ _ _ _ _ | exact Kd.V_nil _ _ _ _ _ | exact Kd.Q_nil _ _ _ _ _ | exact Kd.S_nil _ _ _ _ _, by repeat (first | (with_reducible first | exact HB.out | apply below_alloc | apply pw_below_drewN | apply below_drew1) | exact HB.out), by repeat (first | (with_reducible first | exact HK.out | apply Kept.alloc | apply Kept.drewN | apply Kept.drew) | exact HK.out)⟩
 · rw [if_neg c5] at H
   have c5b0 : (a3 == 0) = false := beq_eq_false_iff_ne.mpr c5
   have c5b1 : (a3 != 0) = true := bne_iff_ne.mpr c5
   have H' := Aside0.mk H
   clear H
   go_enter Tryd.func30, Tryd.ntmps30
   go_wp2
   go_loopg [9] k (fun kq v9 w' => ∃ (x9_1 : Int), v9 = .int .i64 x9_1 ∧ Aside0 (spec_doRows.l0 kq l0 l1 a3 x9_1 = some r) ∧ Aside0 (kq ≤ k) ∧ Aside0 (Kd.R (Kd.int .i64) 3 w' w0.heap.size (fun k_ => (P1_ k_ ∨ w.heap.size ≤ k_)) u9000_ l1) ∧ Aside0 (Kept w w' (fun k_ => P1_ k_)) ∧ Aside0 (Below w0.heap.size w0 w'))
   case atStart => exact ⟨(a2), (by first | rfl | (simp; done) | (simp [*]; done)), H', ⟨Nat.le_refl _⟩, ⟨by (with_reducible repeat (first | apply Kd.R_alloc | apply Kd.R_drewN | apply Kd.R_drew)); exact HO1.out⟩, ⟨by repeat (first | (with_reducible first | exact HK.out | apply Kept.alloc | apply Kept.drewN | apply Kept.drew) | exact HK.out)⟩, ⟨by repeat (first | (with_reducible first | exact HB.out | apply below_alloc | apply pw_below_drewN | apply below_drew1) | exact HB.out)⟩⟩
   case round =>
    clear H'
    try clear p2
    try clear c3
    try clear c5
    try clear c5b0
    try clear c5b1
    try clear c7
    obtain ⟨x9_1, rfl, HA, HK1, HO_1, HK, HB⟩ := hrel
    cases gk with
    | zero => exact absurd HA.out (by simp [spec_doRows.l0])
    | succ k1 =>
     have H := HA.out
     clear HA
     simp only [spec_doRows.l0] at H
     by_cases c10 : x9_1 < (l0.length : Int)
     · rw [if_pos c10] at H
       have c10b0 : decide (x9_1 < (l0.length : Int)) = true := decide_eq_true c10
       clear c10
       replace H := Option.bind_eq_some_iff.mp H
       obtain ⟨t118, A110, H⟩ := H
       replace H : (if t118.length < 17592186044416 then ((spec_doRows.f k1 l0 (t118 ++ [x9_1]) (wrap64 (x9_1 + 1)) (wrap64 (a3 - 1))).bind fun t124 => (if (t124.length : Int) > 0 then (some t124) else (spec_doRows.l0 k1 l0 l1 a3 (wrap64 (x9_1 + 1))))) else (none)) = some r := H
       have A11 := Aside0.mk A110
       clear A110
       by_cases c12 : t118.length < 17592186044416
       · rw [if_pos c12] at H
         have LMc12 := Aside0.mk c12
         clear c12
         obtain ⟨y121, hy121⟩ : ∃ y_ : List Int, y_ = (t118 ++ [x9_1]) := ⟨_, rfl⟩
         replace H : ((spec_doRows.f k1 l0 y121 (wrap64 (x9_1 + 1)) (wrap64 (a3 - 1))).bind fun t124 => (if (t124.length : Int) > 0 then (some t124) else (spec_doRows.l0 k1 l0 l1 a3 (wrap64 (x9_1 + 1))))) = some r := by first | (rw [hy121]; with_reducible exact H) | (have H2_ := (Option.bind_some _ _).symm.trans H; rw [hy121]; with_reducible exact H2_) | (have H2_ := (Option.bind_some _ _).symm.trans H; with_reducible exact H2_) | with_reducible exact H | (rw [hy121]; exact H) | exact H
         have Ny121 := Aside0.mk hy121
         clear hy121
         replace H := Option.bind_eq_some_iff.mp H
         obtain ⟨t124, A130, H⟩ := H
         replace H : (if (t124.length : Int) > 0 then (some t124) else (spec_doRows.l0 k1 l0 l1 a3 (wrap64 (x9_1 + 1)))) = some r := H
         have A13 := Aside0.mk A130
         clear A130
         by_cases c14 : (t124.length : Int) > 0
         · rw [if_pos c14] at H
           have c14b0 : decide (0 < (t124.length : Int)) = true := decide_eq_true c14
           have c14b1 : decide (0 < t124.length) = true := decide_eq_true (by omega)
           clear c14
           obtain rfl := Option.some.inj H
           obtain ⟨Ao15, co15, eo15⟩ := Kd.R_slice HO_1.out
           subst eo15
           go_wp2_with (first | ((with_reducible refine gate_callee (f := 55) rfl ?_); refine goesL_ (some 26) rfl rfl Tryd.func55 (by kernel_rfl) rfl #[.slice Ao15 l1.length co15] rfl (by (try simp only [List.map_toArray, List.map_cons, List.map_nil]); first | done | rfl | (simp only [List.length_drop, List.length_take]; rfl)) ?_; (with_reducible refine (spec_l1Own.calls _ _ l1 t118 _ ?side1 ?side2 A11.out).mono ?_); (case side1 => repeat (first | exact (Kd.R_reads' HO_1.out).2.2 | (with_reducible refine Kd.C_alloc ?_ _) | (with_reducible refine Kd.C_drewN ?_ _) | (with_reducible refine Kd.C_drew ?_))); (case side2 => exact (Kd.R_reads' HO_1.out).2.1); rintro e w16 ⟨v119, rfl, ho0, hb⟩; refine ⟨_, rfl, ?_⟩; have n0_ := Aside0.mk (Kd.R_elder' (by (with_reducible repeat (first | apply Kd.R_alloc | apply Kd.R_drewN | apply Kd.R_drew)); exact HO_1.out) (Kd.R_base ho0) hb); have n1_ := Aside0.mk (Kd.R_lower (Kd.R_new' (Kd.R_newM (M := fun k_ => (P1_ k_ ∨ w.heap.size ≤ k_)) ho0 (by first | exact HK.out.1 | exact (show Kept w _ (fun k_ => P1_ k_) from by repeat (first | (with_reducible first | exact HK.out | apply Kept.alloc | apply Kept.drewN | apply Kept.drew) | exact HK.out)).1) (fun k_ h_ => .inr h_)) (Kd.R_lt (by (with_reducible repeat (first | apply Kd.R_alloc | apply Kd.R_drewN | apply Kd.R_drew)); exact HO_1.out))) (below_size (by repeat (first | (with_reducible first | exact HB.out | apply below_alloc | apply pw_below_drewN | apply below_drew1) | exact HB.out)))); have n2_ := Aside0.mk (Kept.below (S := (fun k_ => P1_ k_)) (by repeat (first | (with_reducible first | exact HK.out | apply Kept.alloc | apply Kept.drewN | apply Kept.drew) | exact HK.out)) hb); have n3_ := Aside0.mk (below_step (by repeat (first | (with_reducible first | exact HB.out | apply below_alloc | apply pw_below_drewN | apply below_drew1) | exact HB.out)) hb); clear HO_1; clear HK; clear HB; have HO_1 := n0_; have HO120 := n1_; have HK := n2_; have HB := n3_; clear n0_ n1_ n2_ n3_; (try clear hb); (try clear hb2); (try clear hk); (try clear hi); (try clear ho0)) | ((with_reducible refine gate_builtin (b := .append) (xs := #[.tmp 26, .tmp 28]) rfl ?_); at_builtin; refine Kd.R_append (Kd.int .i64) (w0 := w0) w0.heap.size rfl (.tmp 26) (.tmp 28) 24 3 (.int .i64 0) 8 rfl Tryd.underlying24 info3 rfl (by decide) (by omega) v119 t118 x9_1 [.int .i64 x9_1] (fun k_ => (P1_ k_ ∨ w.heap.size ≤ k_) ∧ some k_ ≠ (.slice Ao15 l1.length co15 : Value).ownBlock) (fun _ => False) rfl rfl ?aP (fun _ hk => hk.elim) ?aF ?aO ?aB ?aS ?aL ?_; (case aP => exact rfl); (case aB => exact (by repeat (first | (with_reducible first | exact HB.out | apply below_alloc | apply pw_below_drewN | apply below_drew1) | exact HB.out))); (case aF => exact (fun k_ hk => ⟨(.inr (Nat.le_trans (by first | exact HK.out.1 | exact (show Kept w _ (fun k_ => P1_ k_) from by repeat (first | (with_reducible first | exact HK.out | apply Kept.alloc | apply Kept.drewN | apply Kept.drew) | exact HK.out)).1) hk)), Kd.fresh' (Kd.R_lt (by (with_reducible repeat (first | apply Kd.R_alloc | apply Kd.R_drewN | apply Kd.R_drew)); exact HO_1.out)) k_ hk⟩)); (case aO => exact (by (with_reducible repeat (first | apply Kd.R_alloc | apply Kd.R_drewN | apply Kd.R_drew)); exact Kd.R_mono HO120.out (fun _ hk => ⟨hk.1.1, hk.2⟩))); (case aS => exact (below_size (by repeat (first | (with_reducible first | exact HB.out | apply below_alloc | apply pw_below_drewN | apply below_drew1) | exact HB.out)))); (case aL => have := LMc12.out; omega); intro v122 w17 ho hb hg hat; rw [← Ny121.out] at ho; have n0_ := Aside0.mk (Kd.R_after (ok := (fun k_ => (P1_ k_ ∨ w.heap.size ≤ k_))) (by (with_reducible repeat (first | apply Kd.R_alloc | apply Kd.R_drewN | apply Kd.R_drew)); exact HO_1.out) hg hat); have n1_ := Aside0.mk (hb); have n2_ := Aside0.mk (Kept.of_grown (S := (fun k_ => P1_ k_)) hg (by repeat (first | (with_reducible first | exact HK.out | apply Kept.alloc | apply Kept.drewN | apply Kept.drew) | exact HK.out)) (fun k_ e_ => (HO120.out.1 k_ e_).1.1)); have n3_ := Aside0.mk (ho); clear HO_1; clear HB; clear HK; clear HO120; have HO_1 := n0_; have HB := n1_; have HK := n2_; have HO123 := n3_; clear n0_ n1_ n2_ n3_; clear ho hb hg hat; obtain ⟨Ao18, co18, eo18⟩ := Kd.R_slice HO123.out; subst eo18) | ((with_reducible refine gate_callee (f := 30) rfl ?_); refine goesL_ (some 34) rfl rfl Tryd.func30 (by kernel_rfl) rfl #[.slice A0 l0.length c0, .slice Ao18 y121.length co18, .int .i64 (wrap64 (x9_1 + 1)), .int .i64 (wrap64 (a3 - 1))] rfl (by (try simp only [List.map_toArray, List.map_cons, List.map_nil]); first | done | rfl | (simp only [List.length_drop, List.length_take]; rfl)) ?_; (with_reducible refine (ih k1 (by have := HK1.out; omega) _ _ l0 (fun k_ => some k_ = (.slice Ao18 y121.length co18 : Value).ownBlock) (.slice Ao18 y121.length co18) y121 (wrap64 (x9_1 + 1)) (wrap64 (a3 - 1)) t124 w0 _ ?side1 ?side2 ?side3 ?side4 A13.out).mono ?_); (case side1 => repeat (first | (with_reducible first | exact HB.out | apply below_alloc | apply pw_below_drewN | apply below_drew1) | exact HB.out)); (case side2 => exact Kd.C_kept_call HR0.out (by repeat (first | (with_reducible first | exact HK.out | apply Kept.alloc | apply Kept.drewN | apply Kept.drew) | exact HK.out)) (fun k_ hs_ => (fun e_ => (HO123.out.1 k_ e_.symm).1) hs_)); (case side3 => exact HC0.out); (case side4 => exact Kd.R_tight rfl HO123.out); rintro e w19 ⟨v125, rfl, ho0, hb, hkp⟩; refine ⟨_, rfl, ?_⟩; have n0_ := Aside0.mk (Kd.R_mono (ok' := fun k_ => (P1_ k_ ∨ w.heap.size ≤ k_) ∧ some k_ ≠ (v125 : Value).ownBlock) (Kd.R_keptB (HO_1.out) hkp (fun k_ hk_ hs_ => (hk_.2) hs_)) (fun k_ hk_ => ⟨hk_.1.1, fun e_ => Or.elim (ho0.1 k_ e_.symm) (fun hs_ => hk_.2.1 hs_) (fun hn_ => Nat.not_le.2 hk_.2.2 hn_)⟩)); have n1_ := Aside0.mk (Kd.R_mono (ok' := fun k_ => (P1_ k_ ∨ w.heap.size ≤ k_) ∧ some k_ ≠ (.slice Ao15 l1.length co15 : Value).ownBlock) ho0 (fun k_ hk_ => ⟨Or.elim hk_ (fun hs_ => (HO123.out.1 k_ (hs_).symm).1) (fun hn_ => (.inr (Nat.le_trans (by first | exact HK.out.1 | exact (show Kept w _ (fun k_ => P1_ k_) from by repeat (first | (with_reducible first | exact HK.out | apply Kept.alloc | apply Kept.drewN | apply Kept.drew) | exact HK.out)).1) hn_))), Or.elim hk_ (fun hs_ => fun e_ => (((HO_1.out).1 k_ e_.symm).2) hs_) (fun hn_ => (Kd.fresh' (Kd.R_lt (by (with_reducible repeat (first | apply Kd.R_alloc | apply Kd.R_drewN | apply Kd.R_drew)); exact HO_1.out)) k_ hn_))⟩)); have n2_ := Aside0.mk (Kept.then_ (S := (fun k_ => P1_ k_)) (by repeat (first | (with_reducible first | exact HK.out | apply Kept.alloc | apply Kept.drewN | apply Kept.drew) | exact HK.out)) hkp (fun k_ hs_ => (fun e_ => (HO123.out.1 k_ e_.symm).1) hs_)); have n3_ := Aside0.mk (hb); clear HO_1; clear HK; clear HB; clear HO123; have HO_1 := n0_; have HO126 := n1_; have HK := n2_; have HB := n3_; clear n0_ n1_ n2_ n3_; (try clear hb); (try clear hkp); (try clear ho0); obtain ⟨Ao20, co20, eo20⟩ := Kd.R_slice HO126.out; subst eo20))
           go_ret
           exact ⟨_, by first | rfl | (simp [errW_none, errW_some] <;> rfl) | (simp [*, errW_none, errW_some] <;> rfl), by (with_reducible repeat (first | apply Kd.R_alloc | apply Kd.R_drewN | apply Kd.R_drew)); exact Kd.R_mono HO126.out (fun _ hk => hk.1), by repeat (first | (with_reducible first | exact HB.out | apply below_alloc | apply pw_below_drewN | apply below_drew1) | exact HB.out), by repeat (first | (with_reducible first | exact HK.out | apply Kept.alloc | apply Kept.drewN | apply Kept.drew) | exact HK.out)⟩
         · rw [if_neg c14] at H
           have c14b0 : decide (0 < (t124.length : Int)) = false := decide_eq_false c14
           have c14b1 : decide (0 < t124.length) = false := decide_eq_false (by omega)
           clear c14
           have H' := Aside0.mk H
           clear H
           obtain ⟨Ao21, co21, eo21⟩ := Kd.R_slice HO_1.out
           subst eo21
           go_wp2_with (first | ((with_reducible refine gate_callee (f := 55) rfl ?_); refine goesL_ (some 26) rfl rfl Tryd.func55 (by kernel_rfl) rfl #[.slice Ao21 l1.length co21] rfl (by (try simp only [List.map_toArray, List.map_cons, List.map_nil]); first | done | rfl | (simp only [List.length_drop, List.length_take]; rfl)) ?_; (with_reducible refine (spec_l1Own.calls _ _ l1 t118 _ ?side1 ?side2 A11.out).mono ?_); (case side1 => repeat (first | exact (Kd.R_reads' HO_1.out).2.2 | (with_reducible refine Kd.C_alloc ?_ _) | (with_reducible refine Kd.C_drewN ?_ _) | (with_reducible refine Kd.C_drew ?_))); (case side2 => exact (Kd.R_reads' HO_1.out).2.1); rintro e w22 ⟨v119, rfl, ho0, hb⟩; refine ⟨_, rfl, ?_⟩; have n0_ := Aside0.mk (Kd.R_elder' (by (with_reducible repeat (first | apply Kd.R_alloc | apply Kd.R_drewN | apply Kd.R_drew)); exact HO_1.out) (Kd.R_base ho0) hb); have n1_ := Aside0.mk (Kd.R_lower (Kd.R_new' (Kd.R_newM (M := fun k_ => (P1_ k_ ∨ w.heap.size ≤ k_)) ho0 (by first | exact HK.out.1 | exact (show Kept w _ (fun k_ => P1_ k_) from by repeat (first | (with_reducible first | exact HK.out | apply Kept.alloc | apply Kept.drewN | apply Kept.drew) | exact HK.out)).1) (fun k_ h_ => .inr h_)) (Kd.R_lt (by (with_reducible repeat (first | apply Kd.R_alloc | apply Kd.R_drewN | apply Kd.R_drew)); exact HO_1.out))) (below_size (by repeat (first | (with_reducible first | exact HB.out | apply below_alloc | apply pw_below_drewN | apply below_drew1) | exact HB.out)))); have n2_ := Aside0.mk (Kept.below (S := (fun k_ => P1_ k_)) (by repeat (first | (with_reducible first | exact HK.out | apply Kept.alloc | apply Kept.drewN | apply Kept.drew) | exact HK.out)) hb); have n3_ := Aside0.mk (below_step (by repeat (first | (with_reducible first | exact HB.out | apply below_alloc | apply pw_below_drewN | apply below_drew1) | exact HB.out)) hb); clear HO_1; clear HK; clear HB; have HO_1 := n0_; have HO120 := n1_; have HK := n2_; have HB := n3_; clear n0_ n1_ n2_ n3_; (try clear hb); (try clear hb2); (try clear hk); (try clear hi); (try clear ho0)) | ((with_reducible refine gate_builtin (b := .append) (xs := #[.tmp 26, .tmp 28]) rfl ?_); at_builtin; refine Kd.R_append (Kd.int .i64) (w0 := w0) w0.heap.size rfl (.tmp 26) (.tmp 28) 24 3 (.int .i64 0) 8 rfl Tryd.underlying24 info3 rfl (by decide) (by omega) v119 t118 x9_1 [.int .i64 x9_1] (fun k_ => (P1_ k_ ∨ w.heap.size ≤ k_) ∧ some k_ ≠ (.slice Ao21 l1.length co21 : Value).ownBlock) (fun _ => False) rfl rfl ?aP (fun _ hk => hk.elim) ?aF ?aO ?aB ?aS ?aL ?_; (case aP => exact rfl); (case aB => exact (by repeat (first | (with_reducible first | exact HB.out | apply below_alloc | apply pw_below_drewN | apply below_drew1) | exact HB.out))); (case aF => exact (fun k_ hk => ⟨(.inr (Nat.le_trans (by first | exact HK.out.1 | exact (show Kept w _ (fun k_ => P1_ k_) from by repeat (first | (with_reducible first | exact HK.out | apply Kept.alloc | apply Kept.drewN | apply Kept.drew) | exact HK.out)).1) hk)), Kd.fresh' (Kd.R_lt (by (with_reducible repeat (first | apply Kd.R_alloc | apply Kd.R_drewN | apply Kd.R_drew)); exact HO_1.out)) k_ hk⟩)); (case aO => exact (by (with_reducible repeat (first | apply Kd.R_alloc | apply Kd.R_drewN | apply Kd.R_drew)); exact Kd.R_mono HO120.out (fun _ hk => ⟨hk.1.1, hk.2⟩))); (case aS => exact (below_size (by repeat (first | (with_reducible first | exact HB.out | apply below_alloc | apply pw_below_drewN | apply below_drew1) | exact HB.out)))); (case aL => have := LMc12.out; omega); intro v122 w23 ho hb hg hat; rw [← Ny121.out] at ho; have n0_ := Aside0.mk (Kd.R_after (ok := (fun k_ => (P1_ k_ ∨ w.heap.size ≤ k_))) (by (with_reducible repeat (first | apply Kd.R_alloc | apply Kd.R_drewN | apply Kd.R_drew)); exact HO_1.out) hg hat); have n1_ := Aside0.mk (hb); have n2_ := Aside0.mk (Kept.of_grown (S := (fun k_ => P1_ k_)) hg (by repeat (first | (with_reducible first | exact HK.out | apply Kept.alloc | apply Kept.drewN | apply Kept.drew) | exact HK.out)) (fun k_ e_ => (HO120.out.1 k_ e_).1.1)); have n3_ := Aside0.mk (ho); clear HO_1; clear HB; clear HK; clear HO120; have HO_1 := n0_; have HB := n1_; have HK := n2_; have HO123 := n3_; clear n0_ n1_ n2_ n3_; clear ho hb hg hat; obtain ⟨Ao24, co24, eo24⟩ := Kd.R_slice HO123.out; subst eo24) | ((with_reducible refine gate_callee (f := 30) rfl ?_); refine goesL_ (some 34) rfl rfl Tryd.func30 (by kernel_rfl) rfl #[.slice A0 l0.length c0, .slice Ao24 y121.length co24, .int .i64 (wrap64 (x9_1 + 1)), .int .i64 (wrap64 (a3 - 1))] rfl (by (try simp only [List.map_toArray, List.map_cons, List.map_nil]); first | done | rfl | (simp only [List.length_drop, List.length_take]; rfl)) ?_; (with_reducible refine (ih k1 (by have := HK1.out; omega) _ _ l0 (fun k_ => some k_ = (.slice Ao24 y121.length co24 : Value).ownBlock) (.slice Ao24 y121.length co24) y121 (wrap64 (x9_1 + 1)) (wrap64 (a3 - 1)) t124 w0 _ ?side1 ?side2 ?side3 ?side4 A13.out).mono ?_); (case side1 => repeat (first | (with_reducible first | exact HB.out | apply below_alloc | apply pw_below_drewN | apply below_drew1) | exact HB.out)); (case side2 => exact Kd.C_kept_call HR0.out (by repeat (first | (with_reducible first | exact HK.out | apply Kept.alloc | apply Kept.drewN | apply Kept.drew) | exact HK.out)) (fun k_ hs_ => (fun e_ => (HO123.out.1 k_ e_.symm).1) hs_)); (case side3 => exact HC0.out); (case side4 => exact Kd.R_tight rfl HO123.out); rintro e w25 ⟨v125, rfl, ho0, hb, hkp⟩; refine ⟨_, rfl, ?_⟩; have n0_ := Aside0.mk (Kd.R_mono (ok' := fun k_ => (P1_ k_ ∨ w.heap.size ≤ k_) ∧ some k_ ≠ (v125 : Value).ownBlock) (Kd.R_keptB (HO_1.out) hkp (fun k_ hk_ hs_ => (hk_.2) hs_)) (fun k_ hk_ => ⟨hk_.1.1, fun e_ => Or.elim (ho0.1 k_ e_.symm) (fun hs_ => hk_.2.1 hs_) (fun hn_ => Nat.not_le.2 hk_.2.2 hn_)⟩)); have n1_ := Aside0.mk (Kd.R_mono (ok' := fun k_ => (P1_ k_ ∨ w.heap.size ≤ k_) ∧ some k_ ≠ (.slice Ao21 l1.length co21 : Value).ownBlock) ho0 (fun k_ hk_ => ⟨Or.elim hk_ (fun hs_ => (HO123.out.1 k_ (hs_).symm).1) (fun hn_ => (.inr (Nat.le_trans (by first | exact HK.out.1 | exact (show Kept w _ (fun k_ => P1_ k_) from by repeat (first | (with_reducible first | exact HK.out | apply Kept.alloc | apply Kept.drewN | apply Kept.drew) | exact HK.out)).1) hn_))), Or.elim hk_ (fun hs_ => fun e_ => (((HO_1.out).1 k_ e_.symm).2) hs_) (fun hn_ => (Kd.fresh' (Kd.R_lt (by (with_reducible repeat (first | apply Kd.R_alloc | apply Kd.R_drewN | apply Kd.R_drew)); exact HO_1.out)) k_ hn_))⟩)); have n2_ := Aside0.mk (Kept.then_ (S := (fun k_ => P1_ k_)) (by repeat (first | (with_reducible first | exact HK.out | apply Kept.alloc | apply Kept.drewN | apply Kept.drew) | exact HK.out)) hkp (fun k_ hs_ => (fun e_ => (HO123.out.1 k_ e_.symm).1) hs_)); have n3_ := Aside0.mk (hb); clear HO_1; clear HK; clear HB; clear HO123; have HO_1 := n0_; have HO126 := n1_; have HK := n2_; have HB := n3_; clear n0_ n1_ n2_ n3_; (try clear hb); (try clear hkp); (try clear ho0); obtain ⟨Ao26, co26, eo26⟩ := Kd.R_slice HO126.out; subst eo26))
           go_roundg k1
           case measure => have := HK1.out; omega
           case rel => exact ⟨(wrap64 (x9_1 + 1)), (by first | rfl | (simp; done) | (simp [*]; done)), H', ⟨by have := HK1.out; omega⟩, ⟨by (with_reducible repeat (first | apply Kd.R_alloc | apply Kd.R_drewN | apply Kd.R_drew)); exact Kd.R_mono HO_1.out (fun _ hk => hk.1)⟩, ⟨by repeat (first | (with_reducible first | exact HK.out | apply Kept.alloc | apply Kept.drewN | apply Kept.drew) | exact HK.out)⟩, ⟨by repeat (first | (with_reducible first | exact HB.out | apply below_alloc | apply pw_below_drewN | apply below_drew1) | exact HB.out)⟩⟩
       · rw [if_neg c12] at H
         exact absurd H (by simp)
     · rw [if_neg c10] at H
       have c10b0 : decide (x9_1 < (l0.length : Int)) = false := decide_eq_false c10
       clear c10
       obtain rfl := Option.some.inj H
       go_wp2
       go_ret
       exact ⟨_, by first | rfl | (simp [errW_none, errW_some] <;> rfl) | (simp [*, errW_none, errW_some] <;> rfl), by first | exact Kd.R_nil _ _ _ _ _ | exact Kd.N_nil _ _ _ _ _ | exact Kd.V_nil _ _ _ _ _ | exact Kd.Q_nil _ _ _ _ _ | exact Kd.S_nil _ _ _ _ _, by repeat (first | (with_reducible first | exact HB.out | apply below_alloc | apply pw_below_drewN | apply below_drew1) | exact HB.out), by repeat (first | (with_reducible first | exact HK.out | apply Kept.alloc | apply Kept.drewN | apply Kept.drew) | exact HK.out)⟩

end Go.Proofs.YtgcgecbdmomceaaDoor.A

-- made by a program of this repo (wip/pp.py) through the kit's printer
namespace Go.Proofs.YtgcgecbdmomceaaDoor.A
open Go.RowKit Go.Proofs.YtgcgecbdmomceaaDoorW.PrintWords Go.Proofs.YtgcgecbdmomceaaDoorW.PrintLast Go.Proofs.YtgcgecbdmomceaaDoorW.PrintMore
attribute [local go_sem] max2_int min2_int max_two min_two max_three min_three max_four min_four
set_option linter.unusedVariables false
set_option linter.unusedSimpArgs false

/-! ### spec_RefusingRows: function 6 -/
def spec_RefusingRows.l0 : Nat → List (List Int) → Int → Option (List Int × Bool)
 | 0, _, _ => none
 | k + 1, x0, x4 => if x4 ≤ (x0.length : Int) then ((spec_doRows.f k x0 ([] : List Int) 0 x4).bind fun t128 => (if (t128.length : Int) > 0 then (some (t128, true)) else (spec_RefusingRows.l0 k x0 (wrap64 (x4 + 1))))) else (some (([] : List Int), false))
def spec_RefusingRows.f (k : Nat) (l0 : List (List Int)) : Option (List Int × Bool) := (spec_doGood.f k l0).bind fun t127 => (if t127 = true then (spec_RefusingRows.l0 k l0 1) else (some (([] : List Int), false)))
set_option maxHeartbeats 8000000 in
set_option maxRecDepth 100000 in
theorem spec_RefusingRows.calls (k : Nat) (A0 : Option Addr) (c0 : Nat) (l0 : List (List Int)) (r1 : List Int) (r2 : Bool) (w : World) (hr0 : Kd.C (Kd.slice 3 (Kd.int .i64)) w A0 l0.length l0) (hc0 : l0.length ≤ c0) (h : spec_RefusingRows.f k l0 = some (r1, r2)) :
 Calls Tryd.prog 6 #[.slice A0 l0.length c0] w fun e w' => ∃ v0_ : Value, e = .returned (.tuple #[v0_, .bool r2]) ∧ Kd.R (Kd.int .i64) 3 w' w.heap.size (fun _ => True) v0_ r1 ∧ Below w.heap.size w w' := by
 have HR0 := Aside0.mk hr0
 have HC0 := Aside0.mk hc0
 clear hr0 hc0
 have HB := Aside0.mk (Below.refl w.heap.size w)
 have H : ((spec_doGood.f k l0).bind fun t127 => (if t127 = true then (spec_RefusingRows.l0 k l0 1) else (some (([] : List Int), false)))) = some (r1, r2) := h
 clear h
 replace H := Option.bind_eq_some_iff.mp H
 obtain ⟨t127, A20, H⟩ := H
 replace H : (if t127 = true then (spec_RefusingRows.l0 k l0 1) else (some (([] : List Int), false))) = some (r1, r2) := H
 have A2 := Aside0.mk A20
 clear A20
 by_cases c3 : t127 = true
 · subst c3
   have H1 : (spec_RefusingRows.l0 k l0 1) = some (r1, r2) := by rw [if_pos rfl] at H; exact H
   clear H
   have H := H1
   clear H1
   have H' := Aside0.mk H
   clear H
   go_enter Tryd.func6, Tryd.ntmps6
   go_wp2_with (first | ((with_reducible refine gate_callee (f := 29) rfl ?_); refine goesL_ (some 7) rfl rfl Tryd.func29 (by kernel_rfl) rfl #[.slice A0 l0.length c0] rfl (by (try simp only [List.map_toArray, List.map_cons, List.map_nil]); first | done | rfl | (simp only [List.length_drop, List.length_take]; rfl)) ?_; (with_reducible refine (spec_doGood.calls k _ _ l0 true _ ?side1 ?side2 A2.out).mono ?_); (case side1 => repeat (first | exact HR0.out | (with_reducible refine Kd.C_alloc ?_ _) | (with_reducible refine Kd.C_drewN ?_ _) | (with_reducible refine Kd.C_drew ?_))); (case side2 => exact HC0.out); rintro e w' ⟨rfl, ⟨nd, rfl⟩⟩; refine ⟨_, rfl, ?_⟩))
   go_loopg [4] k (fun kq v4 w' => ∃ (x4_1 : Int), v4 = .int .i64 x4_1 ∧ Aside0 (spec_RefusingRows.l0 kq l0 x4_1 = some (r1, r2)) ∧ Aside0 (kq ≤ k) ∧ Aside0 (Below w.heap.size w w'))
   case atStart => exact ⟨(1), (by first | rfl | (simp; done) | (simp [*]; done)), H', ⟨Nat.le_refl _⟩, ⟨by repeat (first | (with_reducible first | exact HB.out | apply below_alloc | apply pw_below_drewN | apply below_drew1) | exact HB.out)⟩⟩
   case round =>
    clear H'
    try clear c2
    try clear p2
    try clear c3
    obtain ⟨x4_1, rfl, HA, HK1, HB⟩ := hrel
    cases gk with
    | zero => exact absurd HA.out (by simp [spec_RefusingRows.l0])
    | succ k1 =>
     have H := HA.out
     clear HA
     simp only [spec_RefusingRows.l0] at H
     by_cases c4 : x4_1 ≤ (l0.length : Int)
     · rw [if_pos c4] at H
       have c4b0 : decide (x4_1 ≤ (l0.length : Int)) = true := decide_eq_true c4
       clear c4
       replace H := Option.bind_eq_some_iff.mp H
       obtain ⟨t128, A50, H⟩ := H
       replace H : (if (t128.length : Int) > 0 then (some (t128, true)) else (spec_RefusingRows.l0 k1 l0 (wrap64 (x4_1 + 1)))) = some (r1, r2) := H
       have A5 := Aside0.mk A50
       clear A50
       by_cases c6 : (t128.length : Int) > 0
       · rw [if_pos c6] at H
         have c6b0 : decide (0 < (t128.length : Int)) = true := decide_eq_true c6
         have c6b1 : decide (0 < t128.length) = true := decide_eq_true (by omega)
         clear c6
         simp only [Option.some.injEq, Prod.mk.injEq] at H
         obtain ⟨rfl, rfl⟩ := H
         go_wp2_with (first | ((with_reducible refine gate_callee (f := 30) rfl ?_); refine goesL_ (some 17) rfl rfl Tryd.func30 (by kernel_rfl) rfl #[.slice A0 l0.length c0, .slice none 0 0, .int .i64 0, .int .i64 x4_1] rfl (by (try simp only [List.map_toArray, List.map_cons, List.map_nil]); first | done | rfl | (simp only [List.length_drop, List.length_take]; rfl)) ?_; (refine (spec_doRows.calls k1 _ _ l0 (fun k_ => some k_ = (.slice none 0 0 : Value).ownBlock) (.slice none 0 0) ([] : List Int) 0 x4_1 t128 w _ ?side1 ?side2 ?side3 ?side4 A5.out).mono ?_); (case side1 => repeat (first | (with_reducible first | exact HB.out | apply below_alloc | apply pw_below_drewN | apply below_drew1) | exact HB.out)); (case side2 => exact Kd.C_kept_came (Kd.heap_slice 3 (Kd.heap_int .i64)) HR0.out (by repeat (first | (with_reducible first | exact HB.out | apply below_alloc | apply pw_below_drewN | apply below_drew1) | exact HB.out)) (fun k_ hs_ => (fun e_ => by simp [Value.ownBlock] at e_) hs_)); (case side3 => exact HC0.out); (case side4 => exact Kd.R_nil _ _ _ _ _); rintro e w7 ⟨v129, rfl, ho0, hb, hkp⟩; refine ⟨_, rfl, ?_⟩; have n0_ := Aside0.mk (Kd.R_mono (ok' := fun k_ => True) ho0 (fun k_ hk_ => trivial)); have n1_ := Aside0.mk (hb); clear HB; have HO130 := n0_; have HB := n1_; clear n0_ n1_; (try clear hb); (try clear hkp); (try clear ho0); obtain ⟨Ao8, co8, eo8⟩ := Kd.R_slice HO130.out; subst eo8))
         go_ret2
         exact ⟨_, by first | rfl | (simp [errW_none, errW_some] <;> rfl) | (simp [*, errW_none, errW_some] <;> rfl), by (with_reducible repeat (first | apply Kd.R_alloc | apply Kd.R_drewN | apply Kd.R_drew)); exact HO130.out, by repeat (first | (with_reducible first | exact HB.out | apply below_alloc | apply pw_below_drewN | apply below_drew1) | exact HB.out)⟩
       · rw [if_neg c6] at H
         have c6b0 : decide (0 < (t128.length : Int)) = false := decide_eq_false c6
         have c6b1 : decide (0 < t128.length) = false := decide_eq_false (by omega)
         clear c6
         have H' := Aside0.mk H
         clear H
         go_wp2_with (first | ((with_reducible refine gate_callee (f := 30) rfl ?_); refine goesL_ (some 17) rfl rfl Tryd.func30 (by kernel_rfl) rfl #[.slice A0 l0.length c0, .slice none 0 0, .int .i64 0, .int .i64 x4_1] rfl (by (try simp only [List.map_toArray, List.map_cons, List.map_nil]); first | done | rfl | (simp only [List.length_drop, List.length_take]; rfl)) ?_; (refine (spec_doRows.calls k1 _ _ l0 (fun k_ => some k_ = (.slice none 0 0 : Value).ownBlock) (.slice none 0 0) ([] : List Int) 0 x4_1 t128 w _ ?side1 ?side2 ?side3 ?side4 A5.out).mono ?_); (case side1 => repeat (first | (with_reducible first | exact HB.out | apply below_alloc | apply pw_below_drewN | apply below_drew1) | exact HB.out)); (case side2 => exact Kd.C_kept_came (Kd.heap_slice 3 (Kd.heap_int .i64)) HR0.out (by repeat (first | (with_reducible first | exact HB.out | apply below_alloc | apply pw_below_drewN | apply below_drew1) | exact HB.out)) (fun k_ hs_ => (fun e_ => by simp [Value.ownBlock] at e_) hs_)); (case side3 => exact HC0.out); (case side4 => exact Kd.R_nil _ _ _ _ _); rintro e w9 ⟨v129, rfl, ho0, hb, hkp⟩; refine ⟨_, rfl, ?_⟩; have n0_ := Aside0.mk (Kd.R_mono (ok' := fun k_ => True) ho0 (fun k_ hk_ => trivial)); have n1_ := Aside0.mk (hb); clear HB; have HO130 := n0_; have HB := n1_; clear n0_ n1_; (try clear hb); (try clear hkp); (try clear ho0); obtain ⟨Ao10, co10, eo10⟩ := Kd.R_slice HO130.out; subst eo10))
         go_roundg k1
         case measure => have := HK1.out; omega
         case rel => exact ⟨(wrap64 (x4_1 + 1)), (by first | rfl | (simp; done) | (simp [*]; done)), H', ⟨by have := HK1.out; omega⟩, ⟨by repeat (first | (with_reducible first | exact HB.out | apply below_alloc | apply pw_below_drewN | apply below_drew1) | exact HB.out)⟩⟩
     · rw [if_neg c4] at H
       have c4b0 : decide (x4_1 ≤ (l0.length : Int)) = false := decide_eq_false c4
       clear c4
       simp only [Option.some.injEq, Prod.mk.injEq] at H
       obtain ⟨rfl, rfl⟩ := H
       go_wp2
       go_ret2
       exact ⟨_, by first | rfl | (simp [errW_none, errW_some] <;> rfl) | (simp [*, errW_none, errW_some] <;> rfl), by first | exact Kd.R_nil _ _ _ _ _ | exact Kd.N_nil _ _ _ _ _ | exact Kd.V_nil _ _ _ _ _ | exact Kd.Q_nil _ _ _ _ _ | exact Kd.S_nil _ _ _ _ _, by repeat (first | (with_reducible first | exact HB.out | apply below_alloc | apply pw_below_drewN | apply below_drew1) | exact HB.out)⟩
 · replace c3 := Bool.eq_false_iff.mpr c3
   subst c3
   have H1 : (some (([] : List Int), false)) = some (r1, r2) := by rw [if_neg (show ¬ (false = true) by decide)] at H; exact H
   clear H
   have H := H1
   clear H1
   simp only [Option.some.injEq, Prod.mk.injEq] at H
   obtain ⟨rfl, rfl⟩ := H
   go_enter Tryd.func6, Tryd.ntmps6
   go_wp2_with (first | ((with_reducible refine gate_callee (f := 29) rfl ?_); refine goesL_ (some 7) rfl rfl Tryd.func29 (by kernel_rfl) rfl #[.slice A0 l0.length c0] rfl (by (try simp only [List.map_toArray, List.map_cons, List.map_nil]); first | done | rfl | (simp only [List.length_drop, List.length_take]; rfl)) ?_; (with_reducible refine (spec_doGood.calls k _ _ l0 false _ ?side1 ?side2 A2.out).mono ?_); (case side1 => repeat (first | exact HR0.out | (with_reducible refine Kd.C_alloc ?_ _) | (with_reducible refine Kd.C_drewN ?_ _) | (with_reducible refine Kd.C_drew ?_))); (case side2 => exact HC0.out); rintro e w' ⟨rfl, ⟨nd, rfl⟩⟩; refine ⟨_, rfl, ?_⟩))
   go_ret2
   exact ⟨_, by first | rfl | (simp [errW_none, errW_some] <;> rfl) | (simp [*, errW_none, errW_some] <;> rfl), by first | exact Kd.R_nil _ _ _ _ _ | exact Kd.N_nil _ _ _ _ _ | exact Kd.V_nil _ _ _ _ _ | exact Kd.Q_nil _ _ _ _ _ | exact Kd.S_nil _ _ _ _ _, by repeat (first | (with_reducible first | exact HB.out | apply below_alloc | apply pw_below_drewN | apply below_drew1) | exact HB.out)⟩

end Go.Proofs.YtgcgecbdmomceaaDoor.A

/- slices.Clone at []int: a copy in memory of the call's own (the shelf's worked proof, turned to this claim). -/
namespace Go.Proofs.YtgcgecbdmomceaaDoor.A
open Go.RowKit Go.Proofs.YtgcgecbdmomceaaDoorW.PrintWords Go.Proofs.YtgcgecbdmomceaaDoorW.PrintLast Go.Proofs.YtgcgecbdmomceaaDoorW.PrintMore
attribute [local go_sem] max2_int min2_int max_two min_two max_three min_three max_four min_four
set_option linter.unusedVariables false
set_option linter.unusedSimpArgs false

def slices_Clone_int_int.f (l0 : List Int) : Option (List Int) := if l0.length ≤ 17592186044416 then some l0 else none
set_option maxHeartbeats 2000000 in
set_option maxRecDepth 100000 in
theorem slices_Clone_int_int.calls (A0 : Option Addr) (c0 : Nat) (l0 : List Int) (r : List Int) (w : World) (hr0 : Kd.C (Kd.int .i64) w A0 l0.length l0) (hc0 : l0.length ≤ c0) (h : slices_Clone_int_int.f l0 = some r) :
 Calls Tryd.prog 63 #[.slice A0 l0.length c0] w fun e w' => ∃ v0_ : Value, e = .returned (v0_) ∧ Kd.R (Kd.int .i64) 3 w' w.heap.size (fun _ => True) v0_ r ∧ Below w.heap.size w w' := by
 have hl : l0.length ≤ 17592186044416 ∧ l0 = r := by
  unfold slices_Clone_int_int.f at h
  by_cases c : l0.length ≤ 17592186044416
  · rw [if_pos c] at h
    exact ⟨c, Option.some.inj h⟩
  · rw [if_neg c] at h
    cases h
 clear h
 obtain ⟨hl, rfl⟩ := hl
 have hn := (Kd.reads_of_C (d := (0 : Int)) (h1 := fun _ => rfl) hr0).2.2
 clear hr0
 have q := fun (w : World) (a : Option Addr) (n c n' c' : Nat) => Lib.run_eql_slice_nil (P := Tryd.prog) w 24 3 a n c n' c' Tryd.underlying24
 cases A0 with
 | none =>
  have e0 : l0 = [] := by
   cases l0 with
   | nil => rfl
   | cons x t =>
    obtain ⟨ad, e', _⟩ := hn (by simp)
    cases e'
  subst e0
  clear hn
  go_enter Tryd.func63, Tryd.ntmps63
  go_wp2
  go_ret
  exact ⟨_, rfl, Kd.R_nil _ _ _ _ _, Below.refl _ _⟩
 | some ad =>
  have HC : Aside0 (∀ j u, (encs (Value.int .i64) l0)[j]? = some u → w.cell? (ad.add j) = some u) := ⟨by
   intro j u hj
   have hjl : j < l0.length := by
    have := (List.getElem?_eq_some_iff.1 hj).1
    rwa [encs_length] at this
   obtain ⟨ad', e', hcell⟩ := hn (by omega)
   cases e'
   rw [encs_get (d := (0 : Int)) l0 j hjl] at hj
   injection hj with hj
   rw [← hj]
   exact hcell j hjl⟩
  clear hn
  obtain ⟨i0, hi, hzz⟩ := Option.map_eq_some_iff.1 info3
  simp only [Prod.mk.injEq] at hzz
  obtain ⟨hz0, hz1, hz2⟩ := hzz
  have Hl := Aside0.mk hl
  have Hc := Aside0.mk hc0
  clear hl hc0
  go_enter Tryd.func63, Tryd.ntmps63
  go_wp2_with (at_builtin; refine wpList_append_own _ rfl _ _ 24 rfl w.heap.size 3 i0 (.int .i64 0) 1 8 Tryd.underlying24 hi hz0 hz1 hz2 rfl (by decide) _ _ _ rfl (World.ownsRow_made w #[] 0 (Nat.le_refl _) (Nat.zero_le _) (by simp)) ad l0.length c0 (encs (Value.int .i64) l0) rfl ?qc1 ?qc2 ?qc3 ?qc4 ?qc5 ?qc6 ?_)
  case qc1 => rw [encs_length, Nat.mul_one]
  case qc2 =>
   intro j u hj
   exact Lib.cell?_alloc_some _ (HC.out j u hj)
  case qc3 =>
   intro u hu
   obtain ⟨x, _, rfl⟩ := List.mem_map.1 hu
   rfl
  case qc4 =>
   have := Hl.out
   unfold maxLen
   omega
  case qc5 =>
   have := Hl.out
   omega
  case qc6 => simp
  intro v' w1 hown hgrow hnil
  go_wp2
  go_ret
  refine ⟨v', rfl, ?_, ?_⟩
  · refine Kd.R_of_own ?_ (fun _ _ => trivial)
    simpa using hown
  · exact ((Below.refl _ w).alloc (Nat.le_refl _) _).grown hgrow (by simp) (by intro k hk; simp [Value.ownBlock] at hk; omega)
end Go.Proofs.YtgcgecbdmomceaaDoor.A

/- A call of a function value in a plain region, as an arm of a walk. -/
namespace Go.Proofs.YtgcgecbdmomceaaDoor.A
open Go.RowKit Go.Proofs.YtgcgecbdmomceaaDoorW.PrintWords Go.Proofs.YtgcgecbdmomceaaDoorW.PrintLast Go.Proofs.YtgcgecbdmomceaaDoorW.PrintMore
attribute [local go_sem] max2_int min2_int max_two min_two max_three min_three max_four min_four
set_option linter.unusedVariables false
set_option linter.unusedSimpArgs false

theorem goesF_ {P : Program} {ops : Array Oper} {Q : Exit → Act → World → Prop} {rest : List Oper} {oi : Oper} {a : Act} {w : World} (N : Option Tmp) (hd : oi.dst = N) (hg : oi.guard = none) (t : Tmp) (g : Nat) (lb : Array Value) {xs : Array Operand} {ts : Array TypeId} (eg : ∀ args w, (callFunc g args).run P w = .ok (.enter g args) w) (args : Array Value)
 (hop : oi.op = .call { callee := .value (.tmp t), args := xs, argTypes := ts }) (hf : a.eval (.tmp t) = .func (.func g) #[] lb) (hargs : xs.map a.eval = args)
 (h : Calls P g (args ++ lb) w fun e w' => ∃ v, e = .returned v ∧ wpList P ops Q rest (a.put N v) w') : wpList P ops Q (oi :: rest) a w := by
 refine wpList_plain hg fun K hK => ?_
 have hrun : (execOp a.eval oi).run P w = .ok (.enter g (args ++ lb)) w := by
  have he := eg (args ++ lb) w
  unfold execOp
  simp only [hop, resolve, hf, Deferred.ofValue, hargs]
  simpa [invoke] using he
 unfold Oper.wp
 rw [hrun, Oper.upon_enter]
 refine h.mono fun e w'' hh => ?_
 obtain ⟨v, rfl, hk⟩ := hh
 subst hd
 exact hK _ _ hk
theorem gateS_ {P : Program} {ops : Array Oper} {Q : Exit → Act → World → Prop} {oi : Oper} {a : Act} {w : World} {K : Act → World → Prop} {E : Prop} (N : Tmp) (_hN : oi.dst = some N) (h : if Region.wanted oi (yielded ops a.tmps) = true then Oper.wp P oi a w K Q else E) : if Region.wanted oi (yielded ops a.tmps) = true then Oper.wp P oi a w K Q else E := h
/-- The same as a step of a region that draws its order. -/
theorem goesFS_ {P : Program} {ops : Array Oper} {Q : Exit → Act → World → Prop} {oi : Oper} {a : Act} {w : World} {K : Act → World → Prop} (N : Option Tmp) (t : Tmp) (g : Nat) (lb : Array Value) {xs : Array Operand} {ts : Array TypeId} (eg : ∀ args w, (callFunc g args).run P w = .ok (.enter g args) w) (args : Array Value)
 (hw : Region.wanted oi (yielded ops a.tmps) = true) (hN : oi.dst = N) (hop : oi.op = .call { callee := .value (.tmp t), args := xs, argTypes := ts }) (hf : a.eval (.tmp t) = .func (.func g) #[] lb) (hargs : xs.map a.eval = args)
 (h : Calls P g (args ++ lb) w fun e w' => ∃ v, e = .returned v ∧ K (a.put N v) w') : if Region.wanted oi (yielded ops a.tmps) = true then Oper.wp P oi a w K Q else K (a.put N undef) w := by
 refine call_ g (args ++ lb) hw hN ?_ h
 have he := eg (args ++ lb) w
 unfold execOp
 simp only [hop, resolve, hf, Deferred.ofValue, hargs]
 simpa [invoke] using he
end Go.Proofs.YtgcgecbdmomceaaDoor.A

/- A world in which one elder block alone may have changed. -/
namespace Go.Proofs.YtgcgecbdmomceaaDoor.A
open Go.RowKit Go.Proofs.YtgcgecbdmomceaaDoorW.PrintWords Go.Proofs.YtgcgecbdmomceaaDoorW.PrintLast Go.Proofs.YtgcgecbdmomceaaDoorW.PrintMore
attribute [local go_sem] max2_int min2_int max_two min_two max_three min_three max_four min_four
set_option linter.unusedVariables false
set_option linter.unusedSimpArgs false

def GB (w W : World) (g : Nat) : Prop := w.grownBy W (some g)
theorem gb_refl (w : World) (g : Nat) : GB w w g := World.grownBy.refl w _
theorem gb_keep {w W : World} {g : Nat} (h : GB w W g) : KeepBut w W g none := ⟨h.size, fun i hi hne _ => h.block i hi (by intro e; injection e with e; exact hne e)⟩
theorem gb_trans {w W W' : World} {g : Nat} (h : GB w W g) (k : GB W W' g) : GB w W' g := ⟨k.os.trans h.os, k.tape.trans h.tape, k.output.trans h.output, Nat.le_trans h.size k.size, fun i hi hne => (k.block i (Nat.lt_of_lt_of_le hi h.size) hne).trans (h.block i hi hne)⟩
theorem gb_below {W W' : World} {g : Nat} (h : Below W.heap.size W W') : GB W W' g := ⟨h.os, h.tape, h.output, h.size, fun i hi _ => h.block i hi⟩
theorem gb_drewN {W W' : World} {g : Nat} (h : GB W W' g) (m : Nat) : GB W (W'.drewN m) g := gb_trans h (gb_below (pw_below_drewN (Below.refl _ _) m))
theorem below_gb {w W W' : World} {g : Nat} (h : Below w.heap.size w W) (k : GB W W' g) (hg : w.heap.size ≤ g) : Below w.heap.size w W' := ⟨k.os.trans h.os, k.tape.trans h.tape, k.output.trans h.output, Nat.le_trans h.size k.size, fun i hi => (k.block i (Nat.lt_of_lt_of_le hi h.size) (by intro e; injection e with e; omega)).trans (h.block i hi)⟩
end Go.Proofs.YtgcgecbdmomceaaDoor.A

/- Words on tables: two reads in line, a table that has been checked and is still the call's own. -/
namespace Go.Proofs.YtgcgecbdmomceaaDoor.A
open Go.RowKit Go.Proofs.YtgcgecbdmomceaaDoorW.PrintWords Go.Proofs.YtgcgecbdmomceaaDoorW.PrintLast Go.Proofs.YtgcgecbdmomceaaDoorW.PrintMore
attribute [local go_sem] max2_int min2_int max_two min_two max_three min_three max_four min_four
set_option linter.unusedVariables false
set_option linter.unusedSimpArgs false

theorem tab_bx {W W' : World} {B : Nat} {v : Value} (hb : Below W.heap.size W W') (h : W.cell? ⟨B, 0, none⟩ = some v) (hB : B < W.heap.size) : W'.cell? ⟨B, 0, none⟩ = some v := (hb.cell (p := ⟨B, 0, none⟩) hB).trans h
theorem tab_at {W : World} {A : Option Addr} {l : List (List Int)} (h : Kd.C (Kd.slice 3 (Kd.int .i64)) W A l.length l) (i j : Int) (p : 0 ≤ i) (q : i < (l.length : Int)) (p' : 0 ≤ j) (q' : j < ((rd_L1 l i).length : Int)) : ∃ ad ad' c, A = some ad ∧ W.cell? (ad.add i.toNat) = some (.slice (some ad') (rd_L1 l i).length c) ∧ W.cell? (ad'.add j.toNat) = some (.int .i64 (rd (rd_L1 l i) j)) := by
 obtain ⟨ad, A0, c0, e, hx, _, hi⟩ := at_L1 h i p q
 obtain ⟨ad', e', hy⟩ := Kd.at_int hi j p' q'
 subst e'
 exact ⟨ad, ad', c0, e, hx, hy⟩
end Go.Proofs.YtgcgecbdmomceaaDoor.A

namespace Go.Proofs.YtgcgecbdmomceaaDoor.A
open Go.RowKit Go.Proofs.YtgcgecbdmomceaaDoorW.PrintWords Go.Proofs.YtgcgecbdmomceaaDoorW.PrintLast Go.Proofs.YtgcgecbdmomceaaDoorW.PrintMore
set_option linter.unusedVariables false
set_option linter.unusedSimpArgs false
theorem slIndex_l (xs : List Int) (x : Int) (hx : xs.length ≤ 9223372036854775807) : ∀ (n i : Nat), i + n = xs.length → ∃ r, Ev (fun k => slices_Index_int_int.l0 k xs x (xs.length : Int) (i : Int)) r ∧ (0 ≤ r ↔ x ∈ xs.drop i)
 | 0, i, h => by
  refine ⟨-1, Ev.succ ?_, ?_⟩
  · simp only [slices_Index_int_int.l0, if_neg (show ¬ (i : Int) < (xs.length : Int) by omega)]
    exact Ev.now _
  · rw [List.drop_eq_nil_of_le (by omega)]
    simp
 | n + 1, i, h => by
  have hi : i < xs.length := by omega
  by_cases c : x = xs[i]
  · refine ⟨(i : Int), Ev.succ ?_, ?_⟩
    · simp only [slices_Index_int_int.l0, if_pos (show (i : Int) < (xs.length : Int) by omega), if_pos (show (0 : Int) ≤ (i : Int) by omega), rdn hi, if_pos c]
      exact Ev.now _
    · refine ⟨fun _ => ?_, fun _ => by omega⟩
      rw [List.drop_eq_getElem_cons hi, c]
      exact List.mem_cons_self
  · obtain ⟨r, h1, h2⟩ := slIndex_l xs x hx n (i + 1) (by omega)
    refine ⟨r, Ev.succ ?_, ?_⟩
    · simp only [slices_Index_int_int.l0, if_pos (show (i : Int) < (xs.length : Int) by omega), if_pos (show (0 : Int) ≤ (i : Int) by omega), rdn hi, if_neg c, wsucc hi hx]
      exact h1
    · rw [h2, List.drop_eq_getElem_cons hi, List.mem_cons]
      simp [c]
theorem slContains_ev (xs : List Int) (x : Int) (hx : xs.length ≤ 9223372036854775807) : Ev (fun k => slices_Contains_int_int.f k xs x) (decide (x ∈ xs)) := by
 obtain ⟨r, h1, h2⟩ := slIndex_l xs x hx xs.length 0 (by omega)
 rw [List.drop_zero] at h2
 unfold slices_Contains_int_int.f slices_Index_int_int.f
 have h3 : decide (x ∈ xs) = decide (r ≥ 0) := by
  rw [Bool.eq_iff_iff]
  simp only [decide_eq_true_eq]
  exact ⟨fun h => h2.2 h, fun h => h2.1 h⟩
 rw [h3]
 exact Ev.bind h1 (Ev.now _)
end Go.Proofs.YtgcgecbdmomceaaDoor.A

/- placings: all placings in a table, in order; what a visiting function does to one cell is told by a step. -/
namespace Go.Proofs.YtgcgecbdmomceaaDoor.A
open Go.RowKit Go.Proofs.YtgcgecbdmomceaaDoorW.PrintWords Go.Proofs.YtgcgecbdmomceaaDoorW.PrintLast Go.Proofs.YtgcgecbdmomceaaDoorW.PrintMore
attribute [local go_sem] max2_int min2_int max_two min_two max_three min_three max_four min_four
set_option linter.unusedVariables false
set_option linter.unusedSimpArgs false

def loopB {σ : Type} (f : σ → Nat → σ × Bool) : List Nat → σ → σ × Bool
 | [], s => (s, true)
 | j :: js, s => if (f s j).2 = true then loopB f js (f s j).1 else ((f s j).1, false)
def dfs {σ : Type} (l : List (List Int)) (step : σ → List Int → σ × Bool) : Nat → σ → List Int → σ × Bool
 | 0, s, p => step s p
 | m + 1, s, p => loopB (fun s j => if rd (rd_L1 l (p.length : Int)) (j : Int) > 0 then (if (j : Int) ∈ p then (s, true) else dfs l step m s (p ++ [(j : Int)])) else (s, true)) (List.range (rd_L1 l (p.length : Int)).length) s
theorem loopB_at {σ : Type} (f : σ → Nat → σ × Bool) (s : σ) {n i : Nat} (h : i < n) : loopB f ((List.range n).drop i) s = if (f s i).2 = true then loopB f ((List.range n).drop (i + 1)) (f s i).1 else ((f s i).1, false) := by
 rw [List.drop_eq_getElem_cons (by simpa using h)]
 simp [loopB]
theorem loopB_end {σ : Type} (f : σ → Nat → σ × Bool) (s : σ) (n : Nat) : loopB f ((List.range n).drop n) s = (s, true) := by
 rw [List.drop_eq_nil_of_le (by simp)]
 rfl
theorem pkeep_cell {W W' : World} {g B : Nat} {v : Value} (h : KeepBut W W' g none) (hc : W.cell? ⟨B, 0, none⟩ = some v) (hB : B ≠ g) : W'.cell? ⟨B, 0, none⟩ = some v := by
 have hlt := World.block_lt_of_cell? W _ hc
 have := h.2 B hlt hB (by simp)
 unfold World.cell? at hc ⊢
 simp only at hc ⊢
 rw [this]
 exact hc
theorem alloc_bx {W : World} {B : Nat} {v : Value} (o : Obj) (h : W.cell? ⟨B, 0, none⟩ = some v) : (W.alloc o).cell? ⟨B, 0, none⟩ = some v := tab_bx (below_alloc (Below.refl _ W) o) h (World.block_lt_of_cell? W _ h)
theorem alloc_new_at (W : World) (c : Value) (t : TypeId) : (W.alloc (.cells #[c] t)).cell? ⟨W.heap.size, 0, none⟩ = some c := by simp
theorem row_foot {w0 : World} {g : Nat} {A0 : Option Addr} {l0 : List (List Int)} (hT : ∀ W', KeepBut w0 W' g none → Kd.C (Kd.slice 3 (Kd.int .i64)) W' A0 l0.length l0) (i : Int) (h0 : 0 ≤ i) (h1 : i < (l0.length : Int)) :
 ∃ ad Ar cr, A0 = some ad ∧ (rd_L1 l0 i).length ≤ cr ∧ ∀ W', KeepBut w0 W' g none → W'.cell? (ad.add i.toNat) = some (.slice Ar (rd_L1 l0 i).length cr) ∧ Kd.C (Kd.int .i64) W' Ar (rd_L1 l0 i).length (rd_L1 l0 i) := by
 obtain ⟨ad, Ar, cr, rfl, hx, hl, hi⟩ := at_L1 (hT w0 (KeepBut.refl w0 g none)) i h0 h1
 refine ⟨ad, Ar, cr, rfl, hl, fun W' hk => ?_⟩
 have hne : ad.block ≠ g := Kd.foot_ne hT (by omega) (by decide)
 have hc : W'.cell? (ad.add i.toNat) = some (.slice Ar (rd_L1 l0 i).length cr) := keep_cell hk hx (by rw [add_block]; exact hne)
 refine ⟨hc, ?_⟩
 obtain ⟨ad', Ar', cr', e, hx', hl', hi'⟩ := at_L1 (hT W' hk) i h0 h1
 injection e with e
 subst e
 rw [hc] at hx'
 injection hx' with hx'
 injection hx' with e1 e2 e3
 subst e1
 exact hi'
theorem one_row {W : World} {a : Addr} {x : Int} (h : W.cell? a = some (.int .i64 x)) : ReadsRow (fun (x : Int) (cs : List Value) => cs = [.int .i64 x]) 1 W (some a) 1 [x] := ⟨rfl, by decide, fun _ => ⟨a, rfl, fun j p hj => by
 have hj0 : j = 0 := by
  have := (List.getElem?_eq_some_iff.1 hj).1
  simpa using this
 subst hj0
 simp at hj
 subst hj
 exact ⟨[.int .i64 x], rfl, rfl, fun i u hu => by
  match i with
  | 0 =>
   simp at hu
   subst hu
   rw [Nat.zero_mul, Nat.zero_add, Addr.add_zero']
   exact h
  | i + 1 => simp at hu⟩⟩⟩
set_option maxHeartbeats 8000000 in
set_option maxRecDepth 100000 in
theorem place_calls {σ : Type} (l0 : List (List Int)) (A0 : Option Addr) (c0 : Nat) (w0 : World) (g : Nat) (Inv : σ → World → Prop) (step : σ → List Int → σ × Bool) (fv : Nat) (lb : Array Value) (B0 Bv Bp : Nat) (hg : g < w0.heap.size) (hl0 : l0.length ≤ 1000) (hrl : ∀ x ∈ l0, x.length ≤ 1000)
 (eg : ∀ args w, (callFunc fv args).run Tryd.prog w = .ok (.enter fv args) w)
 (hT : ∀ W', KeepBut w0 W' g none → Kd.C (Kd.slice 3 (Kd.int .i64)) W' A0 l0.length l0)
 (hb0 : w0.cell? ⟨B0, 0, none⟩ = some (.slice A0 l0.length c0)) (nb0 : B0 ≠ g) (hbv : w0.cell? ⟨Bv, 0, none⟩ = some (.func (.func fv) #[] lb)) (nbv : Bv ≠ g) (hbp : w0.cell? ⟨Bp, 0, none⟩ = some (.func (.func 62) #[] #[.pointer (some ⟨B0, 0, none⟩), .pointer (some ⟨Bv, 0, none⟩), .pointer (some ⟨Bp, 0, none⟩)])) (nbp : Bp ≠ g)
 (hI : ∀ s W W', Below W.heap.size W W' → Inv s W → Inv s W')
 (hv : ∀ s p v W, GB w0 W g → Inv s W → p.length = l0.length → Kd.R (Kd.int .i64) 3 W w0.heap.size (fun _ => True) v p → Calls Tryd.prog fv (#[v] ++ lb) W fun e w' => e = .returned (.bool (step s p).2) ∧ GB W w' g ∧ Inv (step s p).1 w') :
 ∀ (m : Nat) (s : σ) (p : List Int) (v : Value) (W : World), p.length + m = l0.length → GB w0 W g → Inv s W → Kd.R (Kd.int .i64) 3 W w0.heap.size (fun _ => True) v p →
  Calls Tryd.prog 62 #[v, .pointer (some ⟨B0, 0, none⟩), .pointer (some ⟨Bv, 0, none⟩), .pointer (some ⟨Bp, 0, none⟩)] W fun e w' => e = .returned (.bool (dfs l0 step m s p).2) ∧ GB W w' g ∧ Inv (dfs l0 step m s p).1 w' := by
 have HV := Aside0.mk hv
 have EGP := Aside0.mk (show ∀ args w, (callFunc 62 args).run Tryd.prog w = .ok (.enter 62 args) w from fun args w => enters_ Tryd.func62 (by kernel_rfl) rfl args w)
 have HT := Aside0.mk hT
 have EG := Aside0.mk eg
 have HI := Aside0.mk hI
 have HB0 := Aside0.mk hb0
 have HBV := Aside0.mk hbv
 have HBP := Aside0.mk hbp
 have HRL := Aside0.mk hrl
 clear hv hT eg hI hb0 hbv hbp hrl
 intro m
 induction m with
 | zero =>
  intro s p v W hm hk hi hR
  obtain ⟨Ap, cp, rfl⟩ := Kd.R_slice hR
  have x0 := pkeep_cell (gb_keep hk) HB0.out nb0
  have x1 := pkeep_cell (gb_keep hk) HBV.out nbv
  have HK := Aside0.mk hk
  have HN := Aside0.mk hi
  have HR := Aside0.mk hR
  have e0 : ((p.length : Int) == (l0.length : Int)) = true := beq_iff_eq.mpr (by omega)
  have HM := Aside0.mk (show p.length = l0.length by omega)
  clear hm hk hi hR
  go_enter Tryd.func62, Tryd.ntmps62
  go_wp2_with (first | ((with_reducible refine gate_dst (N := 17) rfl ?_); refine goesF_ (some 17) rfl rfl 15 fv lb EG.out #[.slice Ap p.length cp] rfl rfl (by (try simp only [List.map_toArray, List.map_cons, List.map_nil]); first | done | rfl) ?_; (with_reducible refine (HV.out s p _ W HK.out HN.out HM.out HR.out).mono ?_); rintro e w1 ⟨rfl, hk1, hi1⟩; refine ⟨_, rfl, ?_⟩; have HK1 := Aside0.mk hk1; have HI1 := Aside0.mk hi1; clear hk1 hi1))
  go_ret
  exact ⟨rfl, HK1.out, HI1.out⟩
 | succ m ih =>
  intro s p v W hm hk hi hR
  obtain ⟨Ap, cp, rfl⟩ := Kd.R_slice hR
  have HIH := Aside0.mk ih
  clear ih
  obtain ⟨ad, Ar, cr, rfl, hcr, hrow⟩ := row_foot HT.out (p.length : Int) (by omega) (by omega)
  have x0 := pkeep_cell (gb_keep hk) HB0.out nb0
  have x1 := (hrow W (gb_keep hk)).1
  rw [Int.toNat_natCast] at x1
  have HROW := Aside0.mk hrow
  have HK := Aside0.mk hk
  have HN := Aside0.mk hi
  have HR := Aside0.mk hR
  have e0 : ((p.length : Int) == (l0.length : Int)) = false := beq_eq_false_iff_ne.mpr (by omega)
  have p0 : (0 ≤ (p.length : Int)) = True := eq_true (by omega)
  have p1 : ((p.length : Int) < (l0.length : Int)) = True := eq_true (by omega)
  have HM := Aside0.mk hm
  have HCR := Aside0.mk hcr
  obtain ⟨f, hf⟩ : ∃ f : σ → Nat → σ × Bool, f = fun (s : σ) (j : Nat) => if rd (rd_L1 l0 (p.length : Int)) (j : Int) > 0 then (if (j : Int) ∈ p then (s, true) else dfs l0 step m s (p ++ [(j : Int)])) else (s, true) := ⟨_, rfl⟩
  have hd : dfs l0 step (m + 1) s p = loopB f (List.range (rd_L1 l0 (p.length : Int)).length) s := by rw [hf]; rfl
  rw [hd]
  have HF := Aside0.mk hf
  have hrl2 : (rd_L1 l0 (p.length : Int)).length ≤ 1000 := by
   have hlt : p.length < l0.length := by omega
   unfold rd_L1
   rw [Int.toNat_natCast, List.getD_eq_getElem?_getD, List.getElem?_eq_getElem hlt]
   exact HRL.out _ (List.getElem_mem hlt)
  clear hm hk hi hR hrow hcr hf hd
  generalize rd_L1 l0 (p.length : Int) = row at *
  obtain ⟨R, hR⟩ : ∃ R, R = loopB f (List.range row.length) s := ⟨_, rfl⟩
  rw [← hR]
  obtain ⟨rs, rb⟩ := R
  have HL := Aside0.mk hR.symm
  clear hR
  go_enter Tryd.func62, Tryd.ntmps62
  go_wp2
  go_loopg [23] row.length (fun gg v23 wr => ∃ (j : Nat) (s' : σ), v23 = .int .i64 (j : Int) ∧ j ≤ row.length ∧ row.length - j ≤ gg ∧ Aside0 (GB W wr g) ∧ Aside0 (Inv s' wr) ∧ Aside0 (loopB f ((List.range row.length).drop j) s' = (rs, rb)))
  case atStart => exact ⟨0, s, rfl, Nat.zero_le _, by omega, ⟨by repeat (first | exact gb_refl _ _ | apply gb_drewN)⟩, ⟨by first | exact HN.out | exact HI.out _ _ _ (pw_below_drewN (Below.refl _ _) _) HN.out⟩, ⟨by simpa using HL.out⟩⟩
  case round =>
   obtain ⟨j, s', rfl, hj, hg', HK2, HN2, HL2⟩ := hrel
   by_cases hlt : j < row.length
   · have c0 : decide ((j : Int) < (row.length : Int)) = true := decide_eq_true (by omega)
     have q0 : (0 ≤ (j : Int)) = True := eq_true (by omega)
     have q1 : ((j : Int) < (row.length : Int)) = True := eq_true (by omega)
     have hkw := gb_trans HK.out HK2.out
     obtain ⟨_, hC⟩ := HROW.out wr (gb_keep hkw)
     obtain ⟨ad2, hA, hx⟩ := Kd.at_int hC (j : Int) (by omega) (by omega)
     subst hA
     rw [Int.toNat_natCast] at hx
     have z0 := pkeep_cell (gb_keep hkw) HBP.out nbp
     have HKW := Aside0.mk hkw
     have hq := HL2.out
     rw [loopB_at f s' hlt] at hq
     have hfj : f s' j = if rd row (j : Int) > 0 then (if (j : Int) ∈ p then (s', true) else dfs l0 step m s' (p ++ [(j : Int)])) else (s', true) := by rw [HF.out]
     rw [hfj] at hq
     clear hkw hC hfj
     by_cases cx : rd row (j : Int) > 0
     · have d0 : decide (rd row (j : Int) > 0) = true := decide_eq_true cx
       rw [if_pos cx] at hq
       by_cases cm : (j : Int) ∈ p
       · rw [if_pos cm] at hq
         have HQ := Aside0.mk hq
         obtain ⟨kc, hkc⟩ := Ev.get (slContains_ev p (j : Int) (by have := HM.out; omega))
         rw [decide_eq_true cm] at hkc
         have AC := Aside0.mk hkc
         clear hq cx HL2 cm hkc
         go_wp2
         repeat (go_quiet ((go_at_call 45; (with_reducible refine (slices_Contains_int_int.calls kc _ _ p (j : Int) true _ ?side1 ?side2 AC.out).mono ?_); (case side1 => exact (Kd.R_reads' (Kd.R_keep (Kd.R_mono (Kd.R_bound HR.out) (ok' := fun k => w0.heap.size ≤ k) (fun k hk => hk.2.1)) (gb_keep HK2.out) (fun k hk => by omega))).2.2); (case side2 => exact (Kd.R_reads' HR.out).2.1); rintro e w' ⟨rfl, ⟨nd, rfl⟩⟩; (try first | exact ⟨rfl, _, World.drewN_drewN _ _ _⟩ | exact ⟨rfl, _, Eq.trans (World.drewN_drewN _ _ _) (congrArg (World.drewN _) (Nat.add_assoc _ _ _))⟩))); try go_wp2)
         go_roundg (row.length - (j + 1))
         case measure => omega
         case rel => exact ⟨j + 1, s', by go_num, by omega, by omega, ⟨by repeat (first | exact HK2.out | apply gb_drewN)⟩, ⟨by first | exact HN2.out | exact HI.out _ _ _ (pw_below_drewN (Below.refl _ _) _) HN2.out⟩, ⟨by simpa using HQ.out⟩⟩
       · rw [if_neg cm] at hq
         obtain ⟨kc, hkc⟩ := Ev.get (slContains_ev p (j : Int) (by have := HM.out; omega))
         rw [decide_eq_false cm] at hkc
         have AC := Aside0.mk hkc
         obtain ⟨D, hD⟩ : ∃ D, D = dfs l0 step m s' (p ++ [(j : Int)]) := ⟨_, rfl⟩
         rw [← hD] at hq
         obtain ⟨ds, db⟩ := D
         have HREC : Aside0 (∀ (v : Value) (W1 : World), Below wr.heap.size wr W1 → Kd.R (Kd.int .i64) 3 W1 wr.heap.size (fun _ => True) v (p ++ [(j : Int)]) → Calls Tryd.prog 62 #[v, .pointer (some ⟨B0, 0, none⟩), .pointer (some ⟨Bv, 0, none⟩), .pointer (some ⟨Bp, 0, none⟩)] W1 fun e w' => e = .returned (.bool db) ∧ GB wr w' g ∧ Inv ds w') := ⟨fun v W1 hb hr => by
          have h1 := HIH.out s' (p ++ [(j : Int)]) v W1 (by rw [List.length_append]; have := HM.out; simp only [List.length_cons, List.length_nil]; omega) (gb_trans HKW.out (gb_below hb)) (HI.out _ _ _ hb HN2.out) (Kd.R_lower hr HKW.out.size)
          rw [← hD] at h1
          exact h1.mono (fun e w' h => ⟨h.1, gb_trans (gb_below hb) h.2.1, h.2.2⟩)⟩
         have HRP := Aside0.mk (Kd.R_keep (Kd.R_mono (Kd.R_bound HR.out) (ok' := fun k => w0.heap.size ≤ k) (fun k hk => hk.2.1)) (gb_keep HK2.out) (fun k hk => by omega))
         have HCL := Aside0.mk (show slices_Clone_int_int.f p = some p by unfold slices_Clone_int_int.f; rw [if_pos (by have := HM.out; omega)])
         have HBW := Aside0.mk (Below.refl wr.heap.size wr)
         have hp6 : p.length ≤ 1000 := by have := HM.out; omega
         cases db with
         | true =>
          rw [if_pos rfl] at hq
          have HQ := Aside0.mk hq
          clear hq cx HL2 cm hkc hD
          go_wp2
          go_region_law (first | ((with_reducible refine gateS_ 33 rfl ?_); refine goes_ Tryd.func45 (by kernel_rfl) rfl #[.slice Ap p.length cp, .int .i64 (j : Int)] (by rfl) rfl rfl (by first | (simp [Act.eval, Act.put]; done) | rfl | (go_simp; done) | (go_simp; rfl)) ?_; (with_reducible refine (slices_Contains_int_int.calls kc _ _ p (j : Int) false _ ?side1 ?side2 AC.out).mono ?_); (case side1 => exact Kd.C_below (Kd.R_reads' HRP.out).2.2 (by repeat (first | (with_reducible first | exact HBW.out | apply below_alloc | apply pw_below_drewN | apply below_drew1) | exact HBW.out))); (case side2 => exact (Kd.R_reads' HR.out).2.1); rintro e w' ⟨rfl, ⟨nd, rfl⟩⟩; refine ⟨_, rfl, ?_⟩; have z5 := alloc_bx (W := wr.drewN (1 + nd)) (.cells #[.int .i64 (j : Int)] 3) z0) | ((with_reducible refine gateS_ 39 rfl ?_); refine goes_ Tryd.func63 (by kernel_rfl) rfl #[.slice Ap p.length cp] (by rfl) rfl rfl (by first | (simp [Act.eval, Act.put]; done) | rfl | (go_simp; done) | (go_simp; rfl)) ?_; (with_reducible show Calls _ _ _ (World.alloc _ _) _); (refine (slices_Clone_int_int.calls _ _ p p _ ?side1 ?side2 HCL.out).mono ?_); (case side1 => exact Kd.C_below (Kd.R_reads' HRP.out).2.2 (by repeat (first | (with_reducible first | exact HBW.out | apply below_alloc | apply pw_below_drewN | apply below_drew1) | exact HBW.out))); (case side2 => exact (Kd.R_reads' HR.out).2.1); rintro e wc ⟨vc, rfl, ho, hb⟩; refine ⟨_, rfl, ?_⟩; (have hb1 := below_step (by repeat (first | (with_reducible first | exact HBW.out | apply below_alloc | apply pw_below_drewN | apply below_drew1) | exact HBW.out)) hb); (have HO := Aside0.mk (show Kd.R (Kd.int .i64) 3 wc wr.heap.size (fun _ => True) vc p from Kd.R_lower ho (below_size (by repeat (first | (with_reducible first | exact HBW.out | apply below_alloc | apply pw_below_drewN | apply below_drew1) | exact HBW.out))))); (have HBW2 := Aside0.mk hb1); have z1 := tab_bx hb1 z0 (World.block_lt_of_cell? wr _ z0); have z4 := alloc_bx (.cells #[.int .i64 (j : Int)] 3) z1; have zb : wc.cell? ⟨wr.heap.size, 0, none⟩ = some (.int .i64 (j : Int)) := (hb.cell (p := ⟨wr.heap.size, 0, none⟩) (by first | (simp; done) | (simp [go_sem]; done))).trans (alloc_new_at (wr.drewN _) _ _); clear ho hb hb1 HBW; have HBW := HBW2; clear HBW2) | ((with_reducible refine gateS_ 39 rfl ?_); refine goes_ Tryd.func63 (by kernel_rfl) rfl #[.slice Ap p.length cp] (by rfl) rfl rfl (by first | (simp [Act.eval, Act.put]; done) | rfl | (go_simp; done) | (go_simp; rfl)) ?_; (refine (slices_Clone_int_int.calls _ _ p p _ ?side1 ?side2 HCL.out).mono ?_); (case side1 => exact Kd.C_below (Kd.R_reads' HRP.out).2.2 (by repeat (first | (with_reducible first | exact HBW.out | apply below_alloc | apply pw_below_drewN | apply below_drew1) | exact HBW.out))); (case side2 => exact (Kd.R_reads' HR.out).2.1); rintro e wc ⟨vc, rfl, ho, hb⟩; refine ⟨_, rfl, ?_⟩; (have hb1 := below_step (by repeat (first | (with_reducible first | exact HBW.out | apply below_alloc | apply pw_below_drewN | apply below_drew1) | exact HBW.out)) hb); (have HO := Aside0.mk (show Kd.R (Kd.int .i64) 3 wc wr.heap.size (fun _ => True) vc p from Kd.R_lower ho (below_size (by repeat (first | (with_reducible first | exact HBW.out | apply below_alloc | apply pw_below_drewN | apply below_drew1) | exact HBW.out))))); (have HBW2 := Aside0.mk hb1); have z1 := tab_bx hb1 z0 (World.block_lt_of_cell? wr _ z0); have z4 := alloc_bx (.cells #[.int .i64 (j : Int)] 3) z1; clear ho hb hb1 HBW; have HBW := HBW2; clear HBW2) | ((with_reducible refine gateS_ 42 rfl ?_); refine Kd.R_append_rows_step (Kd.int .i64) (w0 := wr) wr.heap.size (by rfl) (.tmp 39) (.tmp 41) 24 3 (.int .i64 0) 8 rfl Tryd.underlying24 info3 rfl (by decide) (by omega) vc p [(j : Int)] (some ⟨wr.heap.size, 0, none⟩) 1 1 (fun _ => True) (fun _ => False) (by first | (simp [Act.eval, Act.put]; done) | rfl | (go_simp; done) | (go_simp; rfl)) (by first | (simp [Act.eval, Act.put]; done) | rfl | (go_simp; done) | (go_simp; rfl)) HO.out (Rr := fun x cs => cs = [.int .i64 x]) (one_row zb) (fun _ _ h => h) (fun _ hk => hk.elim) (fun _ _ => trivial) HBW.out HBW.out.size (by omega) ?_; intro v1 w1 ho hb hg hat; have HO1 := Aside0.mk ho; have HB1 := Aside0.mk hb; have z2 := tab_bx hb z0 (World.block_lt_of_cell? wr _ z0); clear ho hb hg hat) | ((with_reducible refine gateS_ 42 rfl ?_); refine Kd.R_append_step (Kd.int .i64) (w0 := wr) wr.heap.size (by rfl) (.tmp 39) (.tmp 41) 24 3 (.int .i64 0) 8 rfl Tryd.underlying24 info3 rfl (by decide) (by omega) vc p (j : Int) [.int .i64 (j : Int)] (fun _ => True) (fun _ => False) (by first | (simp [Act.eval, Act.put]; done) | rfl | (go_simp; done) | (go_simp; rfl)) (by first | (simp [Act.eval, Act.put]; done) | rfl | (go_simp; done) | (go_simp; rfl)) rfl (fun _ hk => hk.elim) (fun _ _ => trivial) HO.out HBW.out HBW.out.size (by omega) ?_; intro v1 w1 ho hb hg hat; have HO1 := Aside0.mk ho; have HB1 := Aside0.mk hb; have z2 := tab_bx hb z0 (World.block_lt_of_cell? wr _ z0); clear ho hb hg hat) | ((with_reducible refine gateS_ 43 rfl ?_); refine goesFS_ (some 43) 37 62 #[.pointer (some ⟨B0, 0, none⟩), .pointer (some ⟨Bv, 0, none⟩), .pointer (some ⟨Bp, 0, none⟩)] EGP.out #[v1] (by rfl) rfl rfl (by first | (simp [Act.eval, Act.put]; done) | rfl | (go_simp; done) | (go_simp; rfl)) (by first | (simp [Act.eval, Act.put]; done) | rfl | (go_simp; done) | (go_simp; rfl)) ?_; (refine (HREC.out v1 _ HB1.out HO1.out).mono ?_); rintro e w2 ⟨rfl, hk2, hi2⟩; refine ⟨_, rfl, ?_⟩; have HK3 := Aside0.mk hk2; have HI3 := Aside0.mk hi2; clear hk2 hi2))
          all_goals
           go_wp2
           go_roundg (row.length - (j + 1))
           case measure => omega
           case rel => exact ⟨j + 1, ds, by go_num, by omega, by omega, ⟨gb_trans HK2.out HK3.out⟩, ⟨HI3.out⟩, ⟨by simpa using HQ.out⟩⟩
         | false =>
          rw [if_neg (by simp)] at hq
          obtain ⟨rfl, rfl⟩ : ds = rs ∧ false = rb := by simpa using hq
          clear hq cx HL2 cm hkc hD
          go_wp2
          go_region_law (first | ((with_reducible refine gateS_ 33 rfl ?_); refine goes_ Tryd.func45 (by kernel_rfl) rfl #[.slice Ap p.length cp, .int .i64 (j : Int)] (by rfl) rfl rfl (by first | (simp [Act.eval, Act.put]; done) | rfl | (go_simp; done) | (go_simp; rfl)) ?_; (with_reducible refine (slices_Contains_int_int.calls kc _ _ p (j : Int) false _ ?side1 ?side2 AC.out).mono ?_); (case side1 => exact Kd.C_below (Kd.R_reads' HRP.out).2.2 (by repeat (first | (with_reducible first | exact HBW.out | apply below_alloc | apply pw_below_drewN | apply below_drew1) | exact HBW.out))); (case side2 => exact (Kd.R_reads' HR.out).2.1); rintro e w' ⟨rfl, ⟨nd, rfl⟩⟩; refine ⟨_, rfl, ?_⟩; have z5 := alloc_bx (W := wr.drewN (1 + nd)) (.cells #[.int .i64 (j : Int)] 3) z0) | ((with_reducible refine gateS_ 39 rfl ?_); refine goes_ Tryd.func63 (by kernel_rfl) rfl #[.slice Ap p.length cp] (by rfl) rfl rfl (by first | (simp [Act.eval, Act.put]; done) | rfl | (go_simp; done) | (go_simp; rfl)) ?_; (with_reducible show Calls _ _ _ (World.alloc _ _) _); (refine (slices_Clone_int_int.calls _ _ p p _ ?side1 ?side2 HCL.out).mono ?_); (case side1 => exact Kd.C_below (Kd.R_reads' HRP.out).2.2 (by repeat (first | (with_reducible first | exact HBW.out | apply below_alloc | apply pw_below_drewN | apply below_drew1) | exact HBW.out))); (case side2 => exact (Kd.R_reads' HR.out).2.1); rintro e wc ⟨vc, rfl, ho, hb⟩; refine ⟨_, rfl, ?_⟩; (have hb1 := below_step (by repeat (first | (with_reducible first | exact HBW.out | apply below_alloc | apply pw_below_drewN | apply below_drew1) | exact HBW.out)) hb); (have HO := Aside0.mk (show Kd.R (Kd.int .i64) 3 wc wr.heap.size (fun _ => True) vc p from Kd.R_lower ho (below_size (by repeat (first | (with_reducible first | exact HBW.out | apply below_alloc | apply pw_below_drewN | apply below_drew1) | exact HBW.out))))); (have HBW2 := Aside0.mk hb1); have z1 := tab_bx hb1 z0 (World.block_lt_of_cell? wr _ z0); have z4 := alloc_bx (.cells #[.int .i64 (j : Int)] 3) z1; have zb : wc.cell? ⟨wr.heap.size, 0, none⟩ = some (.int .i64 (j : Int)) := (hb.cell (p := ⟨wr.heap.size, 0, none⟩) (by first | (simp; done) | (simp [go_sem]; done))).trans (alloc_new_at (wr.drewN _) _ _); clear ho hb hb1 HBW; have HBW := HBW2; clear HBW2) | ((with_reducible refine gateS_ 39 rfl ?_); refine goes_ Tryd.func63 (by kernel_rfl) rfl #[.slice Ap p.length cp] (by rfl) rfl rfl (by first | (simp [Act.eval, Act.put]; done) | rfl | (go_simp; done) | (go_simp; rfl)) ?_; (refine (slices_Clone_int_int.calls _ _ p p _ ?side1 ?side2 HCL.out).mono ?_); (case side1 => exact Kd.C_below (Kd.R_reads' HRP.out).2.2 (by repeat (first | (with_reducible first | exact HBW.out | apply below_alloc | apply pw_below_drewN | apply below_drew1) | exact HBW.out))); (case side2 => exact (Kd.R_reads' HR.out).2.1); rintro e wc ⟨vc, rfl, ho, hb⟩; refine ⟨_, rfl, ?_⟩; (have hb1 := below_step (by repeat (first | (with_reducible first | exact HBW.out | apply below_alloc | apply pw_below_drewN | apply below_drew1) | exact HBW.out)) hb); (have HO := Aside0.mk (show Kd.R (Kd.int .i64) 3 wc wr.heap.size (fun _ => True) vc p from Kd.R_lower ho (below_size (by repeat (first | (with_reducible first | exact HBW.out | apply below_alloc | apply pw_below_drewN | apply below_drew1) | exact HBW.out))))); (have HBW2 := Aside0.mk hb1); have z1 := tab_bx hb1 z0 (World.block_lt_of_cell? wr _ z0); have z4 := alloc_bx (.cells #[.int .i64 (j : Int)] 3) z1; clear ho hb hb1 HBW; have HBW := HBW2; clear HBW2) | ((with_reducible refine gateS_ 42 rfl ?_); refine Kd.R_append_rows_step (Kd.int .i64) (w0 := wr) wr.heap.size (by rfl) (.tmp 39) (.tmp 41) 24 3 (.int .i64 0) 8 rfl Tryd.underlying24 info3 rfl (by decide) (by omega) vc p [(j : Int)] (some ⟨wr.heap.size, 0, none⟩) 1 1 (fun _ => True) (fun _ => False) (by first | (simp [Act.eval, Act.put]; done) | rfl | (go_simp; done) | (go_simp; rfl)) (by first | (simp [Act.eval, Act.put]; done) | rfl | (go_simp; done) | (go_simp; rfl)) HO.out (Rr := fun x cs => cs = [.int .i64 x]) (one_row zb) (fun _ _ h => h) (fun _ hk => hk.elim) (fun _ _ => trivial) HBW.out HBW.out.size (by omega) ?_; intro v1 w1 ho hb hg hat; have HO1 := Aside0.mk ho; have HB1 := Aside0.mk hb; have z2 := tab_bx hb z0 (World.block_lt_of_cell? wr _ z0); clear ho hb hg hat) | ((with_reducible refine gateS_ 42 rfl ?_); refine Kd.R_append_step (Kd.int .i64) (w0 := wr) wr.heap.size (by rfl) (.tmp 39) (.tmp 41) 24 3 (.int .i64 0) 8 rfl Tryd.underlying24 info3 rfl (by decide) (by omega) vc p (j : Int) [.int .i64 (j : Int)] (fun _ => True) (fun _ => False) (by first | (simp [Act.eval, Act.put]; done) | rfl | (go_simp; done) | (go_simp; rfl)) (by first | (simp [Act.eval, Act.put]; done) | rfl | (go_simp; done) | (go_simp; rfl)) rfl (fun _ hk => hk.elim) (fun _ _ => trivial) HO.out HBW.out HBW.out.size (by omega) ?_; intro v1 w1 ho hb hg hat; have HO1 := Aside0.mk ho; have HB1 := Aside0.mk hb; have z2 := tab_bx hb z0 (World.block_lt_of_cell? wr _ z0); clear ho hb hg hat) | ((with_reducible refine gateS_ 43 rfl ?_); refine goesFS_ (some 43) 37 62 #[.pointer (some ⟨B0, 0, none⟩), .pointer (some ⟨Bv, 0, none⟩), .pointer (some ⟨Bp, 0, none⟩)] EGP.out #[v1] (by rfl) rfl rfl (by first | (simp [Act.eval, Act.put]; done) | rfl | (go_simp; done) | (go_simp; rfl)) (by first | (simp [Act.eval, Act.put]; done) | rfl | (go_simp; done) | (go_simp; rfl)) ?_; (refine (HREC.out v1 _ HB1.out HO1.out).mono ?_); rintro e w2 ⟨rfl, hk2, hi2⟩; refine ⟨_, rfl, ?_⟩; have HK3 := Aside0.mk hk2; have HI3 := Aside0.mk hi2; clear hk2 hi2))
          all_goals
           go_wp2
           go_ret
           exact ⟨rfl, gb_trans HK2.out HK3.out, HI3.out⟩
     · have d0 : decide (rd row (j : Int) > 0) = false := decide_eq_false cx
       rw [if_neg cx] at hq
       have HQ := Aside0.mk hq
       clear hq cx HL2
       go_wp2
       repeat (go_quiet (fail); try go_wp2)
       go_wp2
       go_roundg (row.length - (j + 1))
       case measure => omega
       case rel => exact ⟨j + 1, s', by go_num, by omega, by omega, ⟨by repeat (first | exact HK2.out | apply gb_drewN)⟩, ⟨by first | exact HN2.out | exact HI.out _ _ _ (pw_below_drewN (Below.refl _ _) _) HN2.out⟩, ⟨by simpa using HQ.out⟩⟩
   · have c0 : decide ((j : Int) < (row.length : Int)) = false := decide_eq_false (by omega)
     have e : j = row.length := by omega
     have hq := HL2.out
     rw [e, loopB_end] at hq
     obtain ⟨rfl, rfl⟩ : s' = rs ∧ true = rb := by simpa using hq
     clear hq e
     go_wp2
     go_ret
     exact ⟨rfl, HK2.out, HN2.out⟩
end Go.Proofs.YtgcgecbdmomceaaDoor.A

/- placings: the visit of all placings in a table. -/
namespace Go.Proofs.YtgcgecbdmomceaaDoor.A
open Go.RowKit Go.Proofs.YtgcgecbdmomceaaDoorW.PrintWords Go.Proofs.YtgcgecbdmomceaaDoorW.PrintLast Go.Proofs.YtgcgecbdmomceaaDoorW.PrintMore
attribute [local go_sem] max2_int min2_int max_two min_two max_three min_three max_four min_four
set_option linter.unusedVariables false
set_option linter.unusedSimpArgs false

set_option maxHeartbeats 8000000 in
set_option maxRecDepth 100000 in
theorem placings_calls {σ : Type} (l0 : List (List Int)) (A0 : Option Addr) (c0 : Nat) (w : World) (g : Nat) (Inv : σ → World → Prop) (step : σ → List Int → σ × Bool) (fv : Nat) (lb : Array Value) (s : σ) (hg : g < w.heap.size) (hl0 : l0.length ≤ 1000) (hrl : ∀ x ∈ l0, x.length ≤ 1000)
 (eg : ∀ args w, (callFunc fv args).run Tryd.prog w = .ok (.enter fv args) w)
 (hT : ∀ W', KeepBut w W' g none → Kd.C (Kd.slice 3 (Kd.int .i64)) W' A0 l0.length l0)
 (hI : ∀ s W W', Below W.heap.size W W' → Inv s W → Inv s W') (hi : Inv s w)
 (hv : ∀ s p v W, GB w W g → Inv s W → p.length = l0.length → Kd.R (Kd.int .i64) 3 W w.heap.size (fun _ => True) v p → Calls Tryd.prog fv (#[v] ++ lb) W fun e w' => e = .returned (.bool (step s p).2) ∧ GB W w' g ∧ Inv (step s p).1 w') :
 Calls Tryd.prog 39 #[.slice A0 l0.length c0, .func (.func fv) #[] lb] w fun e w' => e = .returned (.tuple #[]) ∧ GB w w' g ∧ Inv (dfs l0 step l0.length s []).1 w' := by
 have HV := Aside0.mk hv
 have HT := Aside0.mk hT
 have EG := Aside0.mk eg
 have HI := Aside0.mk hI
 have HN := Aside0.mk hi
 have HRL := Aside0.mk hrl
 clear hv hT eg hI hi hrl
 have EGP := Aside0.mk (show ∀ args w, (callFunc 62 args).run Tryd.prog w = .ok (.enter 62 args) w from fun args w => enters_ Tryd.func62 (by kernel_rfl) rfl args w)
 have hb3 : Below w.heap.size w (((w.alloc (.cells #[.slice A0 l0.length c0] 22)).alloc (.cells #[.func (.func fv) #[] lb] 37)).alloc (.cells #[(.func (.func 62) #[] #[.pointer (some ⟨w.heap.size, 0, none⟩), .pointer (some ⟨w.heap.size + 1, 0, none⟩), .pointer (some ⟨w.heap.size + 1 + 1, 0, none⟩)])] 37)) := by repeat (first | exact Below.refl _ _ | apply below_alloc)
 have h0 : (((w.alloc (.cells #[.slice A0 l0.length c0] 22)).alloc (.cells #[.func (.func fv) #[] lb] 37)).alloc (.cells #[(.func (.func 62) #[] #[.pointer (some ⟨w.heap.size, 0, none⟩), .pointer (some ⟨w.heap.size + 1, 0, none⟩), .pointer (some ⟨w.heap.size + 1 + 1, 0, none⟩)])] 37)).cell? ⟨w.heap.size, 0, none⟩ = some (.slice A0 l0.length c0) := by simp [go_sem]
 have h1 : (((w.alloc (.cells #[.slice A0 l0.length c0] 22)).alloc (.cells #[.func (.func fv) #[] lb] 37)).alloc (.cells #[(.func (.func 62) #[] #[.pointer (some ⟨w.heap.size, 0, none⟩), .pointer (some ⟨w.heap.size + 1, 0, none⟩), .pointer (some ⟨w.heap.size + 1 + 1, 0, none⟩)])] 37)).cell? ⟨w.heap.size + 1, 0, none⟩ = some (.func (.func fv) #[] lb) := by simp [go_sem]
 have h2 : (((w.alloc (.cells #[.slice A0 l0.length c0] 22)).alloc (.cells #[.func (.func fv) #[] lb] 37)).alloc (.cells #[(.func (.func 62) #[] #[.pointer (some ⟨w.heap.size, 0, none⟩), .pointer (some ⟨w.heap.size + 1, 0, none⟩), .pointer (some ⟨w.heap.size + 1 + 1, 0, none⟩)])] 37)).cell? ⟨w.heap.size + 1 + 1, 0, none⟩ = some (.func (.func 62) #[] #[.pointer (some ⟨w.heap.size, 0, none⟩), .pointer (some ⟨w.heap.size + 1, 0, none⟩), .pointer (some ⟨w.heap.size + 1 + 1, 0, none⟩)]) := by simp [go_sem]
 go_enter Tryd.func39, Tryd.ntmps39
 go_upto_region 3 with (fail)
 generalize (((w.alloc (.cells #[.slice A0 l0.length c0] 22)).alloc (.cells #[.func (.func fv) #[] lb] 37)).alloc (.cells #[(.func (.func 62) #[] #[.pointer (some ⟨w.heap.size, 0, none⟩), .pointer (some ⟨w.heap.size + 1, 0, none⟩), .pointer (some ⟨w.heap.size + 1 + 1, 0, none⟩)])] 37)) = W3 at hb3 h0 h1 h2 ⊢
 have X0 := Aside0.mk h0
 have X1 := Aside0.mk h1
 have X2 := Aside0.mk h2
 have HB3 := Aside0.mk hb3
 have HG3 := Aside0.mk (Nat.lt_of_lt_of_le hg hb3.size)
 have HN3 := Aside0.mk (HI.out _ _ _ hb3 HN.out)
 have HT3 := Aside0.mk (fun (W' : World) (hk : KeepBut W3 W' g none) => HT.out W' ((KeepBut.of_below hb3 g none).trans hk (.inl rfl)))
 have HV3 := Aside0.mk (fun (s : σ) (p : List Int) (v : Value) (W : World) (hk : GB W3 W g) (hi : Inv s W) (hp : p.length = l0.length) (hr : Kd.R (Kd.int .i64) 3 W W3.heap.size (fun _ => True) v p) => HV.out s p v W (gb_trans (gb_below hb3) hk) hi hp (Kd.R_lower hr hb3.size))
 clear h0 h1 hb3
 go_wp2_with (first | ((with_reducible refine gate_dst (N := 7) rfl ?_); refine Kd.R_lit (Kd.int .i64) _ 3 ?hg (N := 7) ?hd (xs := ([] : List Int)) (inner := []) (ok := fun _ => True) (okp := fun _ => True) ?hr ?hp (fun _ hk => hk) trivial (Below.refl _ _) (Nat.le_refl _) (by simp) ?_; (case hd => rfl); (case hg => rfl); (case hr => first | (go_simp; done) | (go_simp; rfl)); (case hp => exact (Reps.none _ _)); intro v4 w4 ho hb hg_ hnew_; clear hg_ hnew_; have HO := Aside0.mk ho; have HB4 := Aside0.mk hb; clear ho hb) | ((with_reducible refine gate_dst (N := 8) rfl ?_); refine goesF_ (some 8) rfl rfl 6 62 #[.pointer (some ⟨w.heap.size, 0, none⟩), .pointer (some ⟨w.heap.size + 1, 0, none⟩), .pointer (some ⟨w.heap.size + 1 + 1, 0, none⟩)] EGP.out #[v4] rfl rfl (by (try simp only [List.map_toArray, List.map_cons, List.map_nil]); first | done | rfl) ?_; (refine (place_calls l0 A0 c0 W3 g Inv step fv lb w.heap.size (w.heap.size + 1) (w.heap.size + 1 + 1) HG3.out hl0 HRL.out EG.out HT3.out X0.out (by omega) X1.out (by omega) X2.out (by omega) HI.out HV3.out l0.length s [] v4 w4 (by simp) (gb_below HB4.out) (HI.out _ _ _ HB4.out HN3.out) HO.out).mono ?_); rintro e w5 ⟨rfl, hk5, hi5⟩; refine ⟨_, rfl, ?_⟩; have HK5 := Aside0.mk hk5; have HI5 := Aside0.mk hi5; clear hk5 hi5))
 exact bodyPost_end (results_none rfl _ _ _) rfl ⟨rfl, gb_trans (gb_below HB3.out) (gb_trans (gb_below HB4.out) HK5.out), HI5.out⟩
end Go.Proofs.YtgcgecbdmomceaaDoor.A

/- CountPlacings: each visit raises a counter in memory. -/
namespace Go.Proofs.YtgcgecbdmomceaaDoor.A
open Go.RowKit Go.Proofs.YtgcgecbdmomceaaDoorW.PrintWords Go.Proofs.YtgcgecbdmomceaaDoorW.PrintLast Go.Proofs.YtgcgecbdmomceaaDoorW.PrintMore
attribute [local go_sem] max2_int min2_int max_two min_two max_three min_three max_four min_four
set_option linter.unusedVariables false
set_option linter.unusedSimpArgs false

def countStep (n : Int) (_ : List Int) : Int × Bool := (wrap64 (n + 1), true)
def smallT (l : List (List Int)) : Bool := decide (l.length ≤ 1000) && l.all fun x => decide (x.length ≤ 1000)
def impl_CountPlacings.f (l0 : List (List Int)) : Option (Int × Bool) := (impl_IsSquare.f l0).bind fun t => if t = true then (if smallT l0 = true then some ((dfs l0 countStep l0.length (0 : Int) []).1, true) else none) else some (0, false)
theorem smallT_spec {l : List (List Int)} (h : smallT l = true) : l.length ≤ 1000 ∧ ∀ x ∈ l, x.length ≤ 1000 := by
 unfold smallT at h
 simpa using h
def IntAt (g : Nat) (n : Int) (W : World) : Prop := W.cell? ⟨g, 0, none⟩ = some (.int .i64 n) ∧ W.frozen? ⟨g, 0, none⟩ = false
theorem gb_set (W : World) (g : Nat) (u : Value) : GB W (W.setCell ⟨g, 0, none⟩ u) g := ⟨rfl, rfl, rfl, by simp, fun i hi hne => Below.heap_setCell W ⟨g, 0, none⟩ u i (by intro e; exact hne (congrArg some e))⟩
theorem intAt_below {g : Nat} {n : Int} {W W' : World} (hb : Below W.heap.size W W') (h : IntAt g n W) : IntAt g n W' := by
 have hlt := World.block_lt_of_cell? W _ h.1
 exact ⟨(hb.cell (p := ⟨g, 0, none⟩) hlt).trans h.1, (hb.frozen (p := ⟨g, 0, none⟩) hlt).trans h.2⟩
set_option maxHeartbeats 2000000 in
theorem count_cell (g : Nat) (n : Int) (v : Value) (W : World) (h : IntAt g n W) :
 Calls Tryd.prog 40 (#[v] ++ #[.pointer (some ⟨g, 0, none⟩)]) W fun e w' => e = .returned (.bool true) ∧ GB W w' g ∧ IntAt g (wrap64 (n + 1)) w' := by
 obtain ⟨h1, h2⟩ := h
 have HS := Aside0.mk (show IntAt g (wrap64 (n + 1)) (W.setCell ⟨g, 0, none⟩ (.int .i64 (wrap64 (n + 1)))) from ⟨World.cell?_setCell_same _ _ _ h1, by rw [World.frozen?_setCell]; exact h2⟩)
 have HK := Aside0.mk (show GB W (W.setCell ⟨g, 0, none⟩ (.int .i64 (wrap64 (n + 1)))) g from gb_set W g _)
 show Calls Tryd.prog 40 #[v, .pointer (some ⟨g, 0, none⟩)] W _
 go_enter Tryd.func40, Tryd.ntmps40
 go_wp2
 go_ret
 exact ⟨rfl, HK.out, HS.out⟩
set_option maxHeartbeats 4000000 in
set_option maxRecDepth 100000 in
theorem impl_CountPlacings.calls (A0 : Option Addr) (c0 : Nat) (l0 : List (List Int)) (r1 : Int) (r2 : Bool) (w : World) (hr0 : Kd.C (Kd.slice 3 (Kd.int .i64)) w A0 l0.length l0) (hc0 : l0.length ≤ c0) (h : impl_CountPlacings.f l0 = some (r1, r2)) :
 Calls Tryd.prog 18 #[.slice A0 l0.length c0] w fun e w' => e = .returned (.tuple #[.int .i64 r1, .bool r2]) ∧ Below w.heap.size w w' := by
 unfold impl_CountPlacings.f at h
 obtain ⟨t, hs, h⟩ := Option.bind_eq_some_iff.mp h
 have HS := Aside0.mk hs
 have HR0 := Aside0.mk hr0
 have HC0 := Aside0.mk hc0
 have HB := Aside0.mk (Below.refl w.heap.size w)
 clear hr0 hs hc0
 cases t with
 | false =>
  obtain ⟨rfl, rfl⟩ : 0 = r1 ∧ false = r2 := by simpa using h
  clear h
  go_enter Tryd.func18, Tryd.ntmps18
  go_wp2_with (go_at_call 21; (refine (impl_IsSquare.calls _ _ l0 false _ ?side1 ?side2 HS.out).mono ?_); (case side1 => exact HR0.out); (case side2 => exact HC0.out); rintro e w1 ⟨rfl, hb⟩; have HB2 := Aside0.mk hb; clear HB hb)
  go_ret2
  exact ⟨rfl, HB2.out⟩
 | true =>
  rw [if_pos rfl] at h
  split at h
  next hsm =>
   obtain ⟨hl, hx⟩ := smallT_spec hsm
   obtain ⟨rfl, rfl⟩ : (dfs l0 countStep l0.length (0 : Int) []).1 = r1 ∧ true = r2 := by simpa using h
   have HL := Aside0.mk hl
   have HX := Aside0.mk hx
   have EG := Aside0.mk (show ∀ args w, (callFunc 40 args).run Tryd.prog w = .ok (.enter 40 args) w from fun args w => enters_ Tryd.func40 (by kernel_rfl) rfl args w)
   clear h hsm hl hx
   generalize hR : (dfs l0 countStep l0.length (0 : Int) []).1 = R
   have HRR := Aside0.mk hR
   clear hR
   go_enter Tryd.func18, Tryd.ntmps18
   go_upto_region 3 with (go_at_call 21; (refine (impl_IsSquare.calls _ _ l0 true _ ?side1 ?side2 HS.out).mono ?_); (case side1 => exact HR0.out); (case side2 => exact HC0.out); rintro e w1 ⟨rfl, hb⟩; have HB2 := Aside0.mk hb; clear HB hb; have HB := HB2; clear HB2)
   go_wp2_with (go_at_call 39; (refine (placings_calls l0 A0 c0 _ w1.heap.size (IntAt w1.heap.size) countStep 40 #[.pointer (some ⟨w1.heap.size, 0, none⟩)] 0 (by simp) HL.out HX.out EG.out ?side1 (fun s W W' hb h => intAt_below hb h) ?side2 ?side3).mono ?_); (case side1 => exact Kd.C_foot_came (Kd.heap_slice _ (Kd.heap_int _)) (Kd.C_below HR0.out HB.out) (below_alloc (Below.refl _ _) _) (Nat.le_refl _)); (case side2 => exact ⟨by simp, by simp⟩); (case side3 => exact fun s p v W hk hi hp hr => count_cell w1.heap.size s v W hi); rintro e w2 ⟨rfl, hk, hi⟩; have HK := Aside0.mk (below_gb HB.out (gb_trans (gb_below (below_alloc (Below.refl _ _) _)) hk) HB.out.size); rw [HRR.out] at hi; obtain ⟨hi1, hi2⟩ := hi; clear hk hi2)
   go_ret2
   exact ⟨rfl, HK.out⟩
  next => cases h
end Go.Proofs.YtgcgecbdmomceaaDoor.A

/- firstPlacing, FirstPlacing: the first visit lays the placing into memory and ends the search. -/
namespace Go.Proofs.YtgcgecbdmomceaaDoor.A
open Go.RowKit Go.Proofs.YtgcgecbdmomceaaDoorW.PrintWords Go.Proofs.YtgcgecbdmomceaaDoorW.PrintLast Go.Proofs.YtgcgecbdmomceaaDoorW.PrintMore
attribute [local go_sem] max2_int min2_int max_two min_two max_three min_three max_four min_four
set_option linter.unusedVariables false
set_option linter.unusedSimpArgs false

def firstStep (_ : Option (List Int)) (p : List Int) : Option (List Int) × Bool := (some p, false)
def firstP (l0 : List (List Int)) : Option (List Int) := (dfs l0 firstStep l0.length none []).1
def smallR (l : List (List Int)) : Bool := decide (l.length ≤ 1000) && l.all fun x => decide (x.length ≤ 1000)
theorem smallR_spec {l : List (List Int)} (h : smallR l = true) : l.length ≤ 1000 ∧ ∀ x ∈ l, x.length ≤ 1000 := by
 unfold smallR at h
 simpa using h
def impl_FirstPlacing.f (l0 : List (List Int)) : Option (List Int × Bool) := (impl_IsSquare.f l0).bind fun t => if t = true then (if smallR l0 = true ∧ 1 ≤ l0.length then (match firstP l0 with | none => some ([], false) | some p => if 1 ≤ p.length then some (p, true) else none) else none) else some ([], false)
def RowAt (base g : Nat) (o : Option (List Int)) (W : World) : Prop := W.frozen? ⟨g, 0, none⟩ = false ∧ match o with | none => W.cell? ⟨g, 0, none⟩ = some (.slice none 0 0) | some p => ∃ v, W.cell? ⟨g, 0, none⟩ = some v ∧ Kd.R (Kd.int .i64) 3 W base (fun _ => True) v p
theorem rowAt_cell {base g : Nat} {o : Option (List Int)} {W : World} (h : RowAt base g o W) : ∃ v, W.cell? ⟨g, 0, none⟩ = some v ∧ v.oneCell' = true := by
 cases o with
 | none => exact ⟨_, h.2, rfl⟩
 | some p =>
  obtain ⟨v, hv, hr⟩ := h.2
  obtain ⟨A, c, rfl⟩ := Kd.R_slice hr
  exact ⟨_, hv, rfl⟩
theorem rowAt_below {base g : Nat} {o : Option (List Int)} {W W' : World} (hb : Below W.heap.size W W') (h : RowAt base g o W) : RowAt base g o W' := by
 obtain ⟨u, hu, _⟩ := rowAt_cell h
 have hlt := World.block_lt_of_cell? W _ hu
 refine ⟨(hb.frozen (p := ⟨g, 0, none⟩) hlt).trans h.1, ?_⟩
 cases o with
 | none => exact (hb.cell (p := ⟨g, 0, none⟩) hlt).trans h.2
 | some p =>
  obtain ⟨v, hv, hr⟩ := h.2
  exact ⟨v, (hb.cell (p := ⟨g, 0, none⟩) hlt).trans hv, Kd.R_below hr hb⟩
theorem gb_set1 (W : World) (g : Nat) (u : Value) : GB W (W.setCell ⟨g, 0, none⟩ u) g := ⟨rfl, rfl, rfl, by simp, fun i hi hne => Below.heap_setCell W ⟨g, 0, none⟩ u i (by intro e; exact hne (congrArg some e))⟩
set_option maxHeartbeats 2000000 in
theorem first_cell (base b0 g : Nat) (o : Option (List Int)) (p : List Int) (v : Value) (W : World) (hg : g < b0) (hb0 : base ≤ b0) (h : RowAt base g o W) (hr : Kd.R (Kd.int .i64) 3 W b0 (fun _ => True) v p) :
 Calls Tryd.prog 60 (#[v] ++ #[.pointer (some ⟨g, 0, none⟩)]) W fun e w' => e = .returned (.bool false) ∧ GB W w' g ∧ RowAt base g (some p) w' := by
 obtain ⟨u, hu, _⟩ := rowAt_cell h
 obtain ⟨A, c, rfl⟩ := Kd.R_slice hr
 have hf := h.1
 have HS := Aside0.mk (show RowAt base g (some p) (W.setCell ⟨g, 0, none⟩ (.slice A p.length c)) from ⟨by rw [World.frozen?_setCell]; exact hf, _, World.cell?_setCell_same _ _ _ hu, Kd.R_lower (Kd.R_mono (ok' := fun _ => True) (Kd.R_far (p := ⟨g, 0, none⟩) (ok := fun k => b0 ≤ k) (Kd.R_mono (Kd.R_bound hr) (fun k hk => hk.2.1)) (fun k hk => by show k ≠ g; omega) _) (fun _ _ => trivial)) hb0⟩)
 have HK := Aside0.mk (gb_set1 W g (.slice A p.length c))
 clear h hr
 show Calls Tryd.prog 60 #[.slice A p.length c, .pointer (some ⟨g, 0, none⟩)] W _
 go_enter Tryd.func60, Tryd.ntmps60
 go_wp2
 go_ret
 exact ⟨rfl, HK.out, HS.out⟩
def FirstAt (W : World) (base : Nat) (v : Value) (o : Option (List Int)) : Prop := (o = none → v = .slice none 0 0) ∧ ∀ p, o = some p → Kd.R (Kd.int .i64) 3 W base (fun _ => True) v p
def FirstPost (base : Nat) (o : Option (List Int)) (e : Ending) (W : World) : Prop := ∃ v, e = .returned v ∧ FirstAt W base v o
set_option maxHeartbeats 4000000 in
set_option maxRecDepth 100000 in
theorem firstPlacing_calls (A0 : Option Addr) (c0 : Nat) (l0 : List (List Int)) (w : World) (hT : Kd.C (Kd.slice 3 (Kd.int .i64)) w A0 l0.length l0) (hl : l0.length ≤ 1000) (hx : ∀ x ∈ l0, x.length ≤ 1000) :
 Calls Tryd.prog 37 #[.slice A0 l0.length c0] w fun e w' => FirstPost w.heap.size (firstP l0) e w' ∧ Below w.heap.size w w' := by
 have HT := Aside0.mk hT
 have HL := Aside0.mk hl
 have HX := Aside0.mk hx
 have EG := Aside0.mk (show ∀ args w, (callFunc 60 args).run Tryd.prog w = .ok (.enter 60 args) w from fun args w => enters_ Tryd.func60 (by kernel_rfl) rfl args w)
 obtain ⟨R, hR⟩ : ∃ R, R = firstP l0 := ⟨_, rfl⟩
 rw [← hR]
 have HRR := Aside0.mk hR
 have HB := Aside0.mk (Below.refl w.heap.size w)
 clear hT hl hx hR
 go_enter Tryd.func37, Tryd.ntmps37
 go_wp2_with (go_at_call 39; (refine (placings_calls l0 A0 c0 _ w.heap.size (RowAt w.heap.size w.heap.size) firstStep 60 #[.pointer (some ⟨w.heap.size, 0, none⟩)] none (by simp) HL.out HX.out EG.out ?side1 (fun s W W' hb h => rowAt_below hb h) ?side2 ?side3).mono ?_); (case side1 => exact Kd.C_foot_came (Kd.heap_slice _ (Kd.heap_int _)) HT.out (below_alloc (Below.refl _ _) _) (Nat.le_refl _)); (case side2 => exact ⟨by simp, by simp⟩); (case side3 => exact fun s p v W hk hi hp hr => first_cell w.heap.size (w.heap.size + 1) w.heap.size s p v W (by omega) (by omega) hi (by simpa using hr)); rintro e w2 ⟨rfl, hk, hi⟩; have HK := Aside0.mk (below_gb (Below.refl w.heap.size w) (gb_trans (gb_below (below_alloc (Below.refl _ _) _)) hk) (Nat.le_refl _)); obtain ⟨u, hu, hone⟩ := rowAt_cell hi; have HI := Aside0.mk (show RowAt w.heap.size w.heap.size R w2 by rw [HRR.out]; exact hi); clear hk hi)
 go_ret
 refine ⟨⟨_, rfl, fun hn => ?_, fun p hp => ?_⟩, HK.out⟩
 · have hi := HI.out
   rw [hn] at hi
   exact Option.some.inj (hu.symm.trans hi.2)
 · have hi := HI.out
   rw [hp] at hi
   obtain ⟨v, hv, hr⟩ := hi.2
   rw [Option.some.inj (hu.symm.trans hv)]
   exact hr
set_option maxHeartbeats 4000000 in
set_option maxRecDepth 100000 in
theorem impl_FirstPlacing.calls (A0 : Option Addr) (c0 : Nat) (l0 : List (List Int)) (r1 : List Int) (r2 : Bool) (w : World) (hr0 : Kd.C (Kd.slice 3 (Kd.int .i64)) w A0 l0.length l0) (hc0 : l0.length ≤ c0) (h : impl_FirstPlacing.f l0 = some (r1, r2)) :
 Calls Tryd.prog 16 #[.slice A0 l0.length c0] w fun e w' => ∃ v0_ : Value, e = .returned (.tuple #[v0_, .bool r2]) ∧ Kd.R (Kd.int .i64) 3 w' w.heap.size (fun _ => True) v0_ r1 ∧ Below w.heap.size w w' := by
 unfold impl_FirstPlacing.f at h
 obtain ⟨t, hs, h⟩ := Option.bind_eq_some_iff.mp h
 have HS := Aside0.mk hs
 have HR0 := Aside0.mk hr0
 have HC0 := Aside0.mk hc0
 have HB := Aside0.mk (Below.refl w.heap.size w)
 clear hr0 hs hc0
 cases t with
 | false =>
  obtain ⟨rfl, rfl⟩ : [] = r1 ∧ false = r2 := by simpa using h
  clear h
  go_enter Tryd.func16, Tryd.ntmps16
  go_wp2_with (go_at_call 21; (refine (impl_IsSquare.calls _ _ l0 false _ ?side1 ?side2 HS.out).mono ?_); (case side1 => exact HR0.out); (case side2 => exact HC0.out); rintro e w1 ⟨rfl, hb⟩; have HB2 := Aside0.mk hb; clear HB hb)
  go_ret2
  exact ⟨_, rfl, Kd.R_nil _ _ _ _ _, HB2.out⟩
 | true =>
  rw [if_pos rfl] at h
  split at h
  next hsm =>
   obtain ⟨hl, hx⟩ := smallR_spec hsm.1
   have HL := Aside0.mk hl
   have HX := Aside0.mk hx
   have hneq := fun (a : Option Addr) (n c : Nat) (W : World) => run_neq_slice_nil (P := Tryd.prog) (w := W) 24 3 a n c Tryd.underlying24
   clear hsm hl hx
   cases hR : firstP l0 with
   | none =>
    rw [hR] at h
    obtain ⟨rfl, rfl⟩ : [] = r1 ∧ false = r2 := by simpa using h
    have HRR := Aside0.mk hR
    clear h hR
    go_enter Tryd.func16, Tryd.ntmps16
    go_wp2_with (first | (go_at_call 21; (refine (impl_IsSquare.calls _ _ l0 true _ ?side1 ?side2 HS.out).mono ?_); (case side1 => exact HR0.out); (case side2 => exact HC0.out); rintro e w1 ⟨rfl, hb⟩; have HB2 := Aside0.mk hb; clear HB hb; have HB := HB2; clear HB2) | (go_at_call 37; (refine (firstPlacing_calls A0 c0 l0 _ ?side1 HL.out HX.out).mono ?_); (case side1 => exact Kd.C_below HR0.out HB.out); rintro e w2 ⟨⟨v, rfl, hv⟩, hb⟩; obtain rfl := hv.1 HRR.out; have HB2 := Aside0.mk (below_step HB.out hb); clear HB hb; have HB := HB2; clear HB2))
    go_ret2
    exact ⟨_, rfl, Kd.R_nil _ _ _ _ _, HB.out⟩
   | some p =>
    rw [hR] at h
    simp only at h
    split at h
    next hp =>
     obtain ⟨rfl, rfl⟩ : p = r1 ∧ true = r2 := by simpa using h
     have HRR := Aside0.mk hR
     have HP := Aside0.mk hp
     clear h hR hp
     go_enter Tryd.func16, Tryd.ntmps16
     go_wp2_with (first | (go_at_call 21; (refine (impl_IsSquare.calls _ _ l0 true _ ?side1 ?side2 HS.out).mono ?_); (case side1 => exact HR0.out); (case side2 => exact HC0.out); rintro e w1 ⟨rfl, hb⟩; have HB2 := Aside0.mk hb; clear HB hb; have HB := HB2; clear HB2) | (go_at_call 37; (refine (firstPlacing_calls A0 c0 l0 _ ?side1 HL.out HX.out).mono ?_); (case side1 => exact Kd.C_below HR0.out HB.out); rintro e w2 ⟨⟨v, rfl, hv⟩, hb⟩; replace hv := hv.2 _ HRR.out; obtain ⟨gg, cap, rfl, _⟩ := Kd.R_form hv (by have := HP.out; omega); have HV := Aside0.mk (Kd.R_lower hv HB.out.size); have HB2 := Aside0.mk (below_step HB.out hb); clear HB hb hv; have HB := HB2; clear HB2))
     go_ret2
     exact ⟨_, rfl, HV.out, HB.out⟩
    next => cases h
  next => cases h
end Go.Proofs.YtgcgecbdmomceaaDoor.A

/-
  DERIVED: THE SHELF's CONTRACTS AT THIS DUMP, IN PLAIN WORDS (tools/lay-plain.mjs out of 'YtgcgecbdmomceaaDoorShelfZ.lean', which tools/lay-shelf.mjs wrote): THE SAME DECLARATIONS UNDER THE SAME NAMES: 'import', 'namespace', 'open', 'def', 'theorem' AND NOTHING ELSE: no command of the shelf's: FOR A HAND-IN. Each laying: the table of numbers ('.._ren') and one theorem, a field a fact of the dump's own or the kernel's comparison; each contract: ONE APPLICATION.
-/
namespace Go.Proofs
open Go.Shelf
def Tryd.tzL_ren : Go.Shelf.Ren := ⟨fun | 27 => 56 | 28 => 69 | 29 => 70 | n => n, fun | 25 => 59 | 3 => 3 | 27 => 69 | 22 => 62 | 4 => 4 | 53 => 73 | 0 => 0 | 5 => 5 | 54 => 74 | n => n, fun | 0 => 0 | 1 => 1 | n => n⟩
theorem Tryd.tzL : Go.Proofs.Lays7.n27 Tryd.prog Tryd.tzL_ren := {
 mixed := by kernel_rfl
 f27 := Tryd.func56.trans (congrArg some (by kernel_rfl))
 f28 := Tryd.func69.trans (congrArg some (by kernel_rfl))
 f29 := Tryd.func70.trans (congrArg some (by kernel_rfl))
 t0 := Tryd.underlying0
 a0 := Tryd.isAgg0
 z0 := Tryd.sizeOf0
 v0 := Tryd.zeroValue0
 i0 := by kernel_rfl
 t3 := Tryd.underlying3
 a3 := Tryd.isAgg3
 z3 := Tryd.sizeOf3
 v3 := Tryd.zeroValue3
 i3 := by kernel_rfl
 t4 := Tryd.underlying4
 a4 := Tryd.isAgg4
 z4 := Tryd.sizeOf4
 v4 := Tryd.zeroValue4
 i4 := by kernel_rfl
 t5 := Tryd.underlying5
 a5 := Tryd.isAgg5
 z5 := Tryd.sizeOf5
 v5 := Tryd.zeroValue5
 i5 := by kernel_rfl
 t22 := Tryd.underlying62
 a22 := Tryd.isAgg62
 z22 := Tryd.sizeOf62
 v22 := Tryd.zeroValue62
 i22 := by kernel_rfl
 t25 := Tryd.underlying59
 a25 := Tryd.isAgg59
 z25 := Tryd.sizeOf59
 v25 := Tryd.zeroValue59
 i25 := by kernel_rfl
 t27 := Tryd.underlying69
 a27 := Tryd.isAgg69
 z27 := Tryd.sizeOf69
 v27 := Tryd.zeroValue69
 i27 := by kernel_rfl
 t53 := Tryd.underlying73
 a53 := Tryd.isAgg73
 z53 := Tryd.sizeOf73
 v53 := Tryd.zeroValue73
 i53 := by kernel_rfl
 t54 := Tryd.underlying74
 a54 := Tryd.isAgg74
 z54 := Tryd.sizeOf74
 g0 := by kernel_rfl
 g1 := by kernel_rfl }
end Go.Proofs

/- math/bits.TrailingZeros (the shelf's contract, laid): its table is asked of the world. -/
namespace Go.Proofs.YtgcgecbdmomceaaDoor.A
open Go.RowKit Go.Proofs.YtgcgecbdmomceaaDoorW.PrintWords Go.Proofs.YtgcgecbdmomceaaDoorW.PrintLast Go.Proofs.YtgcgecbdmomceaaDoorW.PrintMore
attribute [local go_sem] max2_int min2_int max_two min_two max_three min_three max_four min_four
set_option linter.unusedVariables false
set_option linter.unusedSimpArgs false

def TabZ (w : World) : Prop := Go.Proofs.TabAt 1 Go.Lib.deBruijn64tab w
theorem tabZ_below {w w' : World} (h : TabZ w) (hb : Below w.heap.size w w') : TabZ w' := fun j hj => by
 have hc := h j hj
 rw [hb.cell (World.block_lt_of_cell? w _ hc)]
 exact hc
def bits_TrailingZeros.f (a0 : Int) : Option Int := if 0 ≤ a0 ∧ a0 < 18446744073709551616 then some (Go.Lib.ctz 64 a0.toNat : Int) else none
theorem bits_TrailingZeros.calls (a0 : Int) (r : Int) (w : World) (h : bits_TrailingZeros.f a0 = some r) (hT : TabZ w := by exact tabZ_below HT.out (by repeat (first | (with_reducible first | exact HB.out | apply below_alloc | apply pw_below_drewN | apply below_drew1) | exact HB.out))) :
 Calls Tryd.prog 56 #[.int .u64 a0] w fun e w' => e = .returned (.int .i64 r) ∧ Below w.heap.size w w' := by
 unfold bits_TrailingZeros.f at h
 split at h
 · next hb =>
   have hr := Option.some.inj h
   obtain ⟨i, rfl⟩ := Int.eq_ofNat_of_zero_le hb.1
   have hc := Go.Proofs.Any7.bits_TrailingZeros Tryd.tzL i (by omega) w (fun _ => hT)
   change Calls Tryd.prog 56 _ _ _ at hc
   refine hc.mono ?_
   rintro e w' ⟨rfl, rfl⟩
   refine ⟨?_, Below.refl _ _⟩
   rw [← hr, Int.toNat_natCast]
 · cases h
end Go.Proofs.YtgcgecbdmomceaaDoor.A
