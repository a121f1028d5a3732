/- What the law FnExactPartsOf reaches, part 2: Lean functions with the same answers as the Go functions, the proofs that the Go code comes to these answers, and lemmas about them; no condition beyond those that each theorem names. -/
import Derived.Test.YtkhpojcplejdjaaCFnExactPartsOfw1
import Derived.Shelf.SlSortCmp.NoneTotal
import Derived.Shelf.SlGeneric
import Derived.Ground.SlsfProg
import Derived.Test.YtkhpojcplejdjaaProg
import Derived.Test.YtkhpojcplejdjaaCFnExactPartsOf1
-- made by a program of this repo (wip/pp.py) through the kit's printer
namespace Go.Proofs.Ytkhpojcplejdjaa.A
open Go.RowKit Go.Proofs.YtkhpojcplejdjaaW.PrintWords Go.Proofs.YtkhpojcplejdjaaW.PrintLast Go.Proofs.YtkhpojcplejdjaaW.PrintMore
attribute [local go_sem] max2_int min2_int max_two min_two max_three min_three max_four min_four
set_option linter.unusedVariables false
set_option linter.unusedSimpArgs false

/-! ### spec_doEmpty: function 43 -/
def spec_doEmpty.l0 : Nat → Int → List (List Int) → Int → Option ((List (List Int)))
 | 0, _, _, _ => none
 | k + 1, x0, x3, x4 => if x4 < x0 then (if 0 ≤ x0 then (if (x0 : Int).toNat ≤ 35184372088832 then (if x3.length < 5864062014805 then (spec_doEmpty.l0 k x0 (x3 ++ [(List.replicate (x0 : Int).toNat 0)]) (wrap64 (x4 + 1))) else (none)) else (none)) else (none)) else (some x3)
def spec_doEmpty.f (k : Nat) (a0 : Int) : Option ((List (List Int))) := spec_doEmpty.l0 k a0 ([] : List (List Int)) 0
set_option maxHeartbeats 8000000 in
set_option maxRecDepth 100000 in
theorem spec_doEmpty.calls (k : Nat) (a0 : Int) (r : List (List Int)) (w : World) (h : spec_doEmpty.f k a0 = some r) :
 Calls Try.prog 43 #[.int .i64 a0] w fun e w' => ∃ v0_ : Value, e = .returned (v0_) ∧ Kd.S (Kd.slice 3 (Kd.int .i64)) 24 w' w.heap.size (fun _ => True) v0_ r ∧ Below w.heap.size w w' := by
 have HB := Aside0.mk (Below.refl w.heap.size w)
 have H : (spec_doEmpty.l0 k a0 ([] : List (List Int)) 0) = some r := h
 clear h
 have H' := Aside0.mk H
 clear H
 go_enter Try.func43, Try.ntmps43
 go_wp2
 go_loopg [3, 4] k (fun kq v3 v4 w' => ∃ (x3_1 : List (List Int)) (x4_1 : Int), v4 = .int .i64 x4_1 ∧ Aside0 (spec_doEmpty.l0 kq a0 x3_1 x4_1 = some r) ∧ Aside0 (kq ≤ k) ∧ Aside0 (Kd.S (Kd.slice 3 (Kd.int .i64)) 24 w' w.heap.size (fun _ => True) v3 x3_1) ∧ Aside0 (Below w.heap.size w w'))
 case atStart => exact ⟨(([] : List (List Int))), (0), (by first | rfl | (simp; done) | (simp [*]; done)), H', ⟨Nat.le_refl _⟩, ⟨by first | exact Kd.S_nil _ _ _ _ _ | exact Kd.N_nil _ _ _ _ _ | exact Kd.V_nil _ _ _ _ _ | exact Kd.Q_nil _ _ _ _ _ | exact Kd.R_nil _ _ _ _ _⟩, ⟨by repeat (first | (with_reducible first | exact HB.out | apply below_alloc | apply pw_below_drewN | apply below_drew1) | exact HB.out)⟩⟩
 case round =>
  clear H'
  obtain ⟨x3_1, x4_1, rfl, HA, HK1, HO_3, HB⟩ := hrel
  cases gk with
  | zero => exact absurd HA.out (by simp [spec_doEmpty.l0])
  | succ k1 =>
   have H := HA.out
   clear HA
   simp only [spec_doEmpty.l0] at H
   by_cases c2 : x4_1 < a0
   · rw [if_pos c2] at H
     have c2b0 : decide (x4_1 < a0) = true := decide_eq_true c2
     clear c2
     by_cases c3 : 0 ≤ a0
     · rw [if_pos c3] at H
       have c3b0 := eq_true c3
       have c3b1 : decide (0 ≤ a0) = true := decide_eq_true c3
       clear c3
       by_cases c4 : (a0 : Int).toNat ≤ 35184372088832
       · rw [if_pos c4] at H
         have c4b0 := eq_true c4
         have c4b1 : decide ((a0 : Int).toNat ≤ 35184372088832) = true := decide_eq_true c4
         clear c4
         obtain ⟨y115, hy115⟩ : ∃ y_ : List Int, y_ = (List.replicate (a0 : Int).toNat 0) := ⟨_, rfl⟩
         replace H : (if x3_1.length < 5864062014805 then (spec_doEmpty.l0 k1 a0 (x3_1 ++ [y115]) (wrap64 (x4_1 + 1))) else (none)) = some r := by first | (rw [hy115]; with_reducible exact H) | (have H2_ := (Option.bind_some _ _).symm.trans H; rw [hy115]; with_reducible exact H2_) | (have H2_ := (Option.bind_some _ _).symm.trans H; with_reducible exact H2_) | with_reducible exact H | (rw [hy115]; exact H) | exact H
         have Ny115 := Aside0.mk hy115
         clear hy115
         by_cases c5 : x3_1.length < 5864062014805
         · rw [if_pos c5] at H
           have LMc5 := Aside0.mk c5
           clear c5
           obtain ⟨y118, hy118⟩ : ∃ y_ : List (List Int), y_ = (x3_1 ++ [y115]) := ⟨_, rfl⟩
           replace H : (spec_doEmpty.l0 k1 a0 y118 (wrap64 (x4_1 + 1))) = some r := by first | (rw [hy118]; with_reducible exact H) | (have H2_ := (Option.bind_some _ _).symm.trans H; rw [hy118]; with_reducible exact H2_) | (have H2_ := (Option.bind_some _ _).symm.trans H; with_reducible exact H2_) | with_reducible exact H | (rw [hy118]; exact H) | exact H
           have Ny118 := Aside0.mk hy118
           clear hy118
           have H' := Aside0.mk H
           clear H
           go_wp2_with (first | ((with_reducible refine gate_dst (N := 12) rfl ?_); refine Kd.R_make (Kd.int .i64) _ 3 rfl (N := 12) rfl 24 _ _ rfl a0 rfl rfl Try.underlying24 (.int .i64 0) 8 info3 rfl (by decide) (by omega) 0 (ok := fun _ => True) (okp := fun _ => True) rfl (fun _ hk => hk) trivial (of_decide_eq_true (by first | (with_reducible assumption) | assumption)) (Nat.le_trans (Nat.mul_le_mul_right _ (of_decide_eq_true (by first | (with_reducible assumption) | assumption) : a0.toNat ≤ 35184372088832)) (by omega)) (Below.refl _ _) (Nat.le_refl _) ?_; intro v116 w6 ho7 hb hg_ hnew_; clear hg_ hnew_; (first | rw [← Ny115.out] at ho7 | (simp only [Int.reduceToNat] at ho7; rw [← Ny115.out] at ho7)); have n0_ := Aside0.mk (Kd.S_elder' (by (with_reducible repeat (first | apply Kd.S_alloc | apply Kd.S_drewN | apply Kd.S_drew)); exact HO_3.out) (Kd.R_base ho7) hb); have n1_ := Aside0.mk (Kd.R_lower ho7 (below_size (by repeat (first | (with_reducible first | exact HB.out | apply below_alloc | apply pw_below_drewN | apply below_drew1) | exact HB.out)))); have n2_ := Aside0.mk (below_step (by repeat (first | (with_reducible first | exact HB.out | apply below_alloc | apply pw_below_drewN | apply below_drew1) | exact HB.out)) hb); clear HO_3; clear HB; have HO_3 := n0_; have HO117 := n1_; have HB := n2_; clear n0_ n1_ n2_; clear hb ho7; obtain ⟨Ao9, co9, eo9⟩ := Kd.R_slice HO117.out; subst eo9) | ((with_reducible refine gate_builtin (b := .append) (xs := #[.tmp 10, .tmp 13]) rfl ?_); at_builtin; refine Kd.S_append (Kd.slice 3 (Kd.int .i64)) (w0 := w) w.heap.size rfl (.tmp 10) (.tmp 13) 22 24 (.slice none 0 0) 24 rfl Try.underlying22 info24 rfl (by decide) (by omega) u3 x3_1 y115 [.slice Ao9 y115.length co9] (fun _ => True) (fun k_ => some k_ = (.slice Ao9 y115.length co9 : Value).ownBlock) rfl rfl ?aP (fun k_ hk_ => ((Kd.R_mono (ok' := fun k_ => ((fun _ => True)) k_ ∧ some k_ ≠ (u3 : Value).ownBlock) (Kd.R_apart' (HO117.out) (Kd.S_typed HO_3.out) (by decide)) (fun k_ hk => ⟨trivial, hk.2⟩))).1 k_ hk_.symm) ?aF ?aO ?aB ?aS ?aL ?_; (case aP => exact Kd.M_row (Kd.R_mono (Kd.R_tight rfl (Kd.R_mono (ok' := fun k_ => ((fun _ => True)) k_ ∧ some k_ ≠ (u3 : Value).ownBlock) (Kd.R_apart' (HO117.out) (Kd.S_typed HO_3.out) (by decide)) (fun k_ hk => ⟨trivial, hk.2⟩))) (fun _ h_ => h_))); (case aB => exact (by repeat (first | (with_reducible first | exact HB.out | apply below_alloc | apply pw_below_drewN | apply below_drew1) | exact HB.out))); (case aF => exact (fun _ _ => trivial)); (case aO => exact (by (with_reducible repeat (first | apply Kd.S_alloc | apply Kd.S_drewN | apply Kd.S_drew)); exact Kd.S_mono HO_3.out (fun k_ hk => ⟨trivial, fun e_ => hk.2 e_⟩))); (case aS => exact (below_size (by repeat (first | (with_reducible first | exact HB.out | apply below_alloc | apply pw_below_drewN | apply below_drew1) | exact HB.out)))); (case aL => have := LMc5.out; omega); intro v119 w8 ho hb hg hat; rw [← Ny118.out] at ho; have n0_ := Aside0.mk (hb); have n1_ := Aside0.mk (ho); clear HB; clear HO_3; clear HO117; have HB := n0_; have HO120 := n1_; clear n0_ n1_; clear ho hb hg hat))
           go_roundg k1
           case measure => have := HK1.out; omega
           case rel => exact ⟨(y118), (wrap64 (x4_1 + 1)), (by first | rfl | (simp; done) | (simp [*]; done)), H', ⟨by have := HK1.out; omega⟩, ⟨by (with_reducible repeat (first | apply Kd.S_alloc | apply Kd.S_drewN | apply Kd.S_drew)); exact HO120.out⟩, ⟨by repeat (first | (with_reducible first | exact HB.out | apply below_alloc | apply pw_below_drewN | apply below_drew1) | exact HB.out)⟩⟩
         · rw [if_neg c5] at H
           exact absurd H (by simp)
       · rw [if_neg c4] at H
         exact absurd H (by simp)
     · rw [if_neg c3] at H
       exact absurd H (by simp)
   · rw [if_neg c2] at H
     have c2b0 : decide (x4_1 < a0) = false := decide_eq_false c2
     clear c2
     obtain rfl := Option.some.inj H
     go_wp2
     go_ret
     exact ⟨_, by first | rfl | (simp [errW_none, errW_some] <;> rfl) | (simp [*, errW_none, errW_some] <;> rfl), by (with_reducible repeat (first | apply Kd.S_alloc | apply Kd.S_drewN | apply Kd.S_drew)); exact HO_3.out, by repeat (first | (with_reducible first | exact HB.out | apply below_alloc | apply pw_below_drewN | apply below_drew1) | exact HB.out)⟩

end Go.Proofs.Ytkhpojcplejdjaa.A

-- made by a program of this repo (wip/pp.py) through the kit's printer
namespace Go.Proofs.Ytkhpojcplejdjaa.A
open Go.RowKit Go.Proofs.YtkhpojcplejdjaaW.PrintWords Go.Proofs.YtkhpojcplejdjaaW.PrintLast Go.Proofs.YtkhpojcplejdjaaW.PrintMore
attribute [local go_sem] max2_int min2_int max_two min_two max_three min_three max_four min_four
set_option linter.unusedVariables false
set_option linter.unusedSimpArgs false

/-! ### spec_l1Own: function 44 -/
def spec_l1Own.f (l0 : List Int) : Option (List Int) := (some (([] : List Int) : List Int)).bind fun y121 => (if y121.length + l0.length < 17592186044416 then (some (y121 ++ l0)) else (none))
set_option maxHeartbeats 8000000 in
set_option maxRecDepth 100000 in
theorem spec_l1Own.calls (A0 : Option Addr) (c0 : Nat) (l0 : List Int) (r : List Int) (w : World) (hr0 : Kd.C (Kd.int .i64) w A0 l0.length l0) (hc0 : l0.length ≤ c0) (h : spec_l1Own.f l0 = some r) :
 Calls Try.prog 44 #[.slice A0 l0.length c0] w fun e w' => ∃ v0_ : Value, e = .returned (v0_) ∧ Kd.R (Kd.int .i64) 3 w' w.heap.size (fun _ => True) v0_ r ∧ Below w.heap.size w w' := by
 have HR0 := Aside0.mk hr0
 have HC0 := Aside0.mk hc0
 clear hr0 hc0
 have HB := Aside0.mk (Below.refl w.heap.size w)
 have H : ((some (([] : List Int) : List Int)).bind fun y121 => (if y121.length + l0.length < 17592186044416 then (some (y121 ++ l0)) else (none))) = some r := h
 clear h
 obtain ⟨y121, hy121⟩ : ∃ y_ : List Int, y_ = (([] : List Int)) := ⟨_, rfl⟩
 replace H : (if y121.length + l0.length < 17592186044416 then (some (y121 ++ l0)) else (none)) = some r := by first | (rw [hy121]; with_reducible exact H) | (have H2_ := (Option.bind_some _ _).symm.trans H; rw [hy121]; with_reducible exact H2_) | (have H2_ := (Option.bind_some _ _).symm.trans H; with_reducible exact H2_) | with_reducible exact H | (rw [hy121]; exact H) | exact H
 have Ny121 := Aside0.mk hy121
 clear hy121
 by_cases c2 : y121.length + l0.length < 17592186044416
 · rw [if_pos c2] at H
   have LMc2 := Aside0.mk c2
   clear c2
   obtain ⟨y124, hy124⟩ : ∃ y_ : List Int, y_ = (y121 ++ l0) := ⟨_, rfl⟩
   replace H : (some y124) = some r := by first | (rw [hy124]; with_reducible exact H) | (have H2_ := (Option.bind_some _ _).symm.trans H; rw [hy124]; with_reducible exact H2_) | (have H2_ := (Option.bind_some _ _).symm.trans H; with_reducible exact H2_) | with_reducible exact H | (rw [hy124]; exact H) | exact H
   have Ny124 := Aside0.mk hy124
   clear hy124
   obtain rfl := Option.some.inj H
   go_enter Try.func44, Try.ntmps44
   go_wp2_with (first | ((with_reducible refine gate_dst (N := 3) rfl ?_); refine Kd.R_lit (Kd.int .i64) _ 3 ?hg (N := 3) ?hd (xs := ([] : List Int)) (inner := []) (ok := fun _ => True) (okp := fun _ => True) ?hr ?hp (fun _ hk => hk) trivial (Below.refl _ _) (Nat.le_refl _) (by simp) ?_; (case hd => rfl); (case hg => rfl); (case hr => first | (go_simp; done) | (go_simp; rfl)); (case hp => exact (Reps.none _ _)); intro v122 w3 ho4 hb hg_ hnew_; clear hg_ hnew_; (first | rw [← Ny121.out] at ho4 | (simp only [Int.reduceToNat] at ho4; rw [← Ny121.out] at ho4)); have n0_ := Aside0.mk (Kd.R_lower ho4 (below_size (by repeat (first | (with_reducible first | exact HB.out | apply below_alloc | apply pw_below_drewN | apply below_drew1) | exact HB.out)))); have n1_ := Aside0.mk (below_step (by repeat (first | (with_reducible first | exact HB.out | apply below_alloc | apply pw_below_drewN | apply below_drew1) | exact HB.out)) hb); clear HB; have HO123 := n0_; have HB := n1_; clear n0_ n1_; clear hb ho4) | ((with_reducible refine gate_builtin (b := .append) (xs := #[.tmp 3, .tmp 4]) rfl ?_); at_builtin; refine Kd.R_append_rows (Kd.int .i64) (w0 := w) w.heap.size rfl (.tmp 3) (.tmp 4) 24 3 (.int .i64 0) 8 rfl Try.underlying24 info3 rfl (by decide) (by omega) v122 y121 l0 _ _ _ (fun _ => True) (fun _ => False) rfl rfl ?aO ?aR (fun _ _ h => h) (fun _ h => h.elim) ?aF ?aB ?aS ?aL ?_; (case aR => repeat (first | exact (Kd.C_below HR0.out HB.out) | (with_reducible refine Kd.C_alloc ?_ _) | (with_reducible refine Kd.C_drewN ?_ _) | (with_reducible refine Kd.C_drew ?_))); (case aB => exact (by repeat (first | (with_reducible first | exact HB.out | apply below_alloc | apply pw_below_drewN | apply below_drew1) | exact HB.out))); (case aF => exact (fun _ _ => trivial)); (case aO => exact (by (with_reducible repeat (first | apply Kd.R_alloc | apply Kd.R_drewN | apply Kd.R_drew)); exact HO123.out)); (case aS => exact (below_size (by repeat (first | (with_reducible first | exact HB.out | apply below_alloc | apply pw_below_drewN | apply below_drew1) | exact HB.out)))); (case aL => have := LMc2.out; omega); intro v125 w5 ho hb hg hat; rw [← Ny124.out] at ho; have n0_ := Aside0.mk (hb); have n1_ := Aside0.mk (ho); clear HB; clear HO123; have HB := n0_; have HO126 := n1_; clear n0_ n1_; clear ho hb hg hat))
   go_ret
   exact ⟨_, by first | rfl | (simp [errW_none, errW_some] <;> rfl) | (simp [*, errW_none, errW_some] <;> rfl), by (with_reducible repeat (first | apply Kd.R_alloc | apply Kd.R_drewN | apply Kd.R_drew)); exact HO126.out, by repeat (first | (with_reducible first | exact HB.out | apply below_alloc | apply pw_below_drewN | apply below_drew1) | exact HB.out)⟩
 · rw [if_neg c2] at H
   exact absurd H (by simp)

end Go.Proofs.Ytkhpojcplejdjaa.A

-- made by a program of this repo (wip/pp.py) through the kit's printer
namespace Go.Proofs.Ytkhpojcplejdjaa.A
open Go.RowKit Go.Proofs.YtkhpojcplejdjaaW.PrintWords Go.Proofs.YtkhpojcplejdjaaW.PrintLast Go.Proofs.YtkhpojcplejdjaaW.PrintMore
attribute [local go_sem] max2_int min2_int max_two min_two max_three min_three max_four min_four
set_option linter.unusedVariables false
set_option linter.unusedSimpArgs false

/-! ### spec_l1Has: function 93 -/
def spec_l1Has.l0 : Nat → Int → List Int → Int → Int → Option (Bool)
 | 0, _, _, _, _ => none
 | k + 1, x1, x7, x8, x9 => if x9 < x8 then (if 0 ≤ x9 then (if x9 < (x7.length : Int) then (if (rd x7 x9) = x1 then (some true) else (spec_l1Has.l0 k x1 x7 x8 (wrap64 (x9 + 1)))) else (none)) else (none)) else (some false)
def spec_l1Has.f (k : Nat) (l0 : List Int) (a1 : Int) : Option (Bool) := spec_l1Has.l0 k a1 l0 (l0.length : Int) 0
set_option maxHeartbeats 8000000 in
set_option maxRecDepth 100000 in
theorem spec_l1Has.calls (k : Nat) (A0 : Option Addr) (c0 : Nat) (l0 : List Int) (a1 : Int) (r : Bool) (w : World) (hr0 : Kd.C (Kd.int .i64) w A0 l0.length l0) (hc0 : l0.length ≤ c0) (h : spec_l1Has.f k l0 a1 = some r) :
 Calls Try.prog 93 #[.slice A0 l0.length c0, .int .i64 a1] w fun e w' => e = .returned (.bool r) ∧ Drawn0 w w' := by
 have HR0 := Aside0.mk hr0
 have HC0 := Aside0.mk hc0
 clear hr0 hc0
 have H : (spec_l1Has.l0 k a1 l0 (l0.length : Int) 0) = some r := h
 clear h
 have H' := Aside0.mk H
 clear H
 go_enter Try.func93, Try.ntmps93
 go_wp2
 go_loopg [9] k (fun kq v9 w' => ∃ (x9_1 : Int), v9 = .int .i64 x9_1 ∧ Aside0 (spec_l1Has.l0 kq a1 l0 (l0.length : Int) x9_1 = some r) ∧ Aside0 (kq ≤ k) ∧ Drawn0 w w')
 case atStart => exact ⟨(0), (by first | rfl | (simp; done) | (simp [*]; done)), H', ⟨Nat.le_refl _⟩, by repeat (first | exact Drawn0.refl _ | apply Drawn0.step)⟩
 case round =>
  clear H'
  try clear p2
  obtain ⟨x9_1, rfl, HA, HK1, ⟨m1, rfl⟩⟩ := hrel
  cases gk with
  | zero => exact absurd HA.out (by simp [spec_l1Has.l0])
  | succ k1 =>
   have H := HA.out
   clear HA
   simp only [spec_l1Has.l0] at H
   by_cases c3 : x9_1 < (l0.length : Int)
   · rw [if_pos c3] at H
     have c3b0 : decide (x9_1 < (l0.length : Int)) = true := decide_eq_true c3
     clear c3
     by_cases c4 : 0 ≤ x9_1
     · rw [if_pos c4] at H
       have c4b0 : decide (0 ≤ x9_1) = true := decide_eq_true c4
       clear c4
       by_cases c5 : x9_1 < (l0.length : Int)
       · rw [if_pos c5] at H
         have c5b0 : decide (x9_1 < (l0.length : Int)) = true := decide_eq_true c5
         clear c5
         by_cases c6 : (rd l0 x9_1) = a1
         · rw [if_pos c6] at H
           have c6b0 : ((rd l0 x9_1) == a1) = true := beq_iff_eq.mpr c6
           have c6b1 : ((rd l0 x9_1) != a1) = false := bne_eq_false_iff_eq.mpr c6
           clear c6
           obtain rfl := Option.some.inj H
           have p127 : 0 ≤ (x9_1 : Int) := of_decide_eq_true (by first | (with_reducible assumption) | assumption)
           have q127 : x9_1 < (l0.length : Int) := of_decide_eq_true (by first | (with_reducible assumption) | assumption)
           obtain ⟨ad127, e127, hx127_0⟩ := Kd.at_int HR0.out x9_1 p127 q127
           cases e127
           replace p127 := eq_true p127
           replace q127 := eq_true q127
           go_wp2
           go_ret
           exact ⟨by first | rfl | (simp; done) | (simp [*]; done), by repeat (first | exact Drawn0.refl _ | apply Drawn0.step)⟩
         · rw [if_neg c6] at H
           have c6b0 : ((rd l0 x9_1) == a1) = false := beq_eq_false_iff_ne.mpr c6
           have c6b1 : ((rd l0 x9_1) != a1) = true := bne_iff_ne.mpr c6
           have H' := Aside0.mk H
           clear H
           have p127 : 0 ≤ (x9_1 : Int) := of_decide_eq_true (by first | (with_reducible assumption) | assumption)
           have q127 : x9_1 < (l0.length : Int) := of_decide_eq_true (by first | (with_reducible assumption) | assumption)
           obtain ⟨ad127, e127, hx127_0⟩ := Kd.at_int HR0.out x9_1 p127 q127
           cases e127
           replace p127 := eq_true p127
           replace q127 := eq_true q127
           go_wp2
           go_roundg k1
           case measure => have := HK1.out; omega
           case rel => exact ⟨(wrap64 (x9_1 + 1)), (by first | rfl | (simp; done) | (simp [*]; done)), H', ⟨by have := HK1.out; omega⟩, by repeat (first | exact Drawn0.refl _ | apply Drawn0.step)⟩
       · rw [if_neg c5] at H
         exact absurd H (by simp)
     · rw [if_neg c4] at H
       exact absurd H (by simp)
   · rw [if_neg c3] at H
     have c3b0 : decide (x9_1 < (l0.length : Int)) = false := decide_eq_false c3
     clear c3
     obtain rfl := Option.some.inj H
     go_wp2
     go_ret
     exact ⟨by first | rfl | (simp; done) | (simp [*]; done), by repeat (first | exact Drawn0.refl _ | apply Drawn0.step)⟩

end Go.Proofs.Ytkhpojcplejdjaa.A

-- made by a program of this repo (wip/pp.py) through the kit's printer
namespace Go.Proofs.Ytkhpojcplejdjaa.A
open Go.RowKit Go.Proofs.YtkhpojcplejdjaaW.PrintWords Go.Proofs.YtkhpojcplejdjaaW.PrintLast Go.Proofs.YtkhpojcplejdjaaW.PrintMore
attribute [local go_sem] max2_int min2_int max_two min_two max_three min_three max_four min_four
set_option linter.unusedVariables false
set_option linter.unusedSimpArgs false

/-! ### spec_doPlacings: function 45 -/
mutual
def spec_doPlacings.l0 : Nat → List (List Int) → List Int → Int → List (List Int) → List Int → Int → Int → Option ((List (List Int)))
 | 0, _, _, _, _, _, _, _ => none
 | k + 1, x0, x1, x2, x7, x22, x23, x24 => if x24 < x23 then (if 0 ≤ x24 then (if x24 < (x22.length : Int) then (if (rd x22 x24) > 0 then ((spec_l1Has.f k x1 x24).bind fun t136 => (if t136 = true then (spec_doPlacings.j1 k x0 x1 x2 x7 x24 x22 x23 x24 false) else (spec_doPlacings.j1 k x0 x1 x2 x7 x24 x22 x23 x24 (decide ((x7.length : Int) < x2))))) else (spec_doPlacings.j1 k x0 x1 x2 x7 x24 x22 x23 x24 false)) else (none)) else (none)) else (some x7)
def spec_doPlacings.j1 : Nat → List (List Int) → List Int → Int → List (List Int) → Int → List Int → Int → Int → Bool → Option ((List (List Int)))
 | 0, _, _, _, _, _, _, _, _, _ => none
 | k + 1, x0, x1, x2, x7, x8, x22, x23, x24, x42 => if x42 = true then ((spec_l1Own.f x1).bind fun t137 => (if t137.length < 17592186044416 then ((spec_doPlacings.f k x0 (t137 ++ [x8]) (wrap64 (x2 - (x7.length : Int)))).bind fun t143 => (if x7.length + t143.length < 5864062014805 then (spec_doPlacings.l0 k x0 x1 x2 (x7 ++ t143) x22 x23 (wrap64 (x24 + 1))) else (none))) else (none))) else (spec_doPlacings.l0 k x0 x1 x2 x7 x22 x23 (wrap64 (x24 + 1)))
def spec_doPlacings.f : Nat → List (List Int) → List Int → Int → Option ((List (List Int)))
 | 0, _, _, _ => none
 | k + 1, l0, l1, a2 => if (l1.length : Int) = (l0.length : Int) then ((spec_l1Own.f l1).bind fun t128 => (some (([t128] : List (List Int))))) else (if 0 ≤ (l1.length : Int) then (if (l1.length : Int) < (l0.length : Int) then (spec_doPlacings.l0 k l0 l1 a2 ([] : List (List Int)) (rd_L1 l0 (l1.length : Int)) ((rd_L1 l0 (l1.length : Int)).length : Int) 0) else (none)) else (none))
end
set_option maxHeartbeats 8000000 in
set_option maxRecDepth 100000 in
theorem spec_doPlacings.calls (k : Nat) : ∀ (A0 : Option Addr) (c0 : Nat) (l0 : List (List Int)) (A1 : Option Addr) (c1 : Nat) (l1 : List Int) (a2 : Int) (r : List (List Int)) (w : World) (hr0 : Kd.C (Kd.slice 3 (Kd.int .i64)) w A0 l0.length l0) (hc0 : l0.length ≤ c0) (hr1 : Kd.C (Kd.int .i64) w A1 l1.length l1) (hc1 : l1.length ≤ c1) (h : spec_doPlacings.f k l0 l1 a2 = some r),
 Calls Try.prog 45 #[.slice A0 l0.length c0, .slice A1 l1.length c1, .int .i64 a2] w fun e w' => ∃ v0_ : Value, e = .returned (v0_) ∧ Kd.N (Kd.slice 3 (Kd.int .i64)) 24 w' w.heap.size (fun k_ => (w.heap.size ≤ k_)) v0_ r ∧ Below w.heap.size w w' := by
 induction k using Nat.strongRecOn with
 | _ k ih =>
 intro A0 c0 l0 A1 c1 l1 a2 r w hr0 hc0 hr1 hc1 h
 cases k with
 | zero => exact absurd h (by simp [spec_doPlacings.f])
 | succ k =>
 simp only [spec_doPlacings.f] at h
 have HR0 := Aside0.mk hr0
 have HC0 := Aside0.mk hc0
 clear hr0 hc0
 have HR1 := Aside0.mk hr1
 have HC1 := Aside0.mk hc1
 clear hr1 hc1
 have HB := Aside0.mk (Below.refl w.heap.size w)
 have H : (if (l1.length : Int) = (l0.length : Int) then ((spec_l1Own.f l1).bind fun t128 => (some (([t128] : List (List Int))))) else (if 0 ≤ (l1.length : Int) then (if (l1.length : Int) < (l0.length : Int) then (spec_doPlacings.l0 k l0 l1 a2 ([] : List (List Int)) (rd_L1 l0 (l1.length : Int)) ((rd_L1 l0 (l1.length : Int)).length : Int) 0) else (none)) else (none))) = some r := h
 clear h
 by_cases c4 : (l1.length : Int) = (l0.length : Int)
 · rw [if_pos c4] at H
   have c4b0 : ((l1.length : Int) == (l0.length : Int)) = true := beq_iff_eq.mpr c4
   have c4b1 : ((l1.length : Int) != (l0.length : Int)) = false := bne_eq_false_iff_eq.mpr c4
   have c4b2 : (l1.length == l0.length) = true := by first | simpa using c4 | (simp at c4 ⊢; omega)
   clear c4
   replace H := Option.bind_eq_some_iff.mp H
   obtain ⟨t128, A50, H⟩ := H
   replace H : (some (([t128] : List (List Int)))) = some r := H
   have A5 := Aside0.mk A50
   clear A50
   obtain ⟨y131, hy131⟩ : ∃ y_ : List (List Int), y_ = (([t128] : List (List Int))) := ⟨_, rfl⟩
   replace H : (some y131) = some r := by first | (rw [hy131]; with_reducible exact H) | (have H2_ := (Option.bind_some _ _).symm.trans H; rw [hy131]; with_reducible exact H2_) | (have H2_ := (Option.bind_some _ _).symm.trans H; with_reducible exact H2_) | with_reducible exact H | (rw [hy131]; exact H) | exact H
   have Ny131 := Aside0.mk hy131
   clear hy131
   obtain rfl := Option.some.inj H
   go_enter Try.func45, Try.ntmps45
   go_wp2_with (first | ((with_reducible refine gate_callee (f := 44) rfl ?_); refine goesL_ (some 16) rfl rfl Try.func44 (by kernel_rfl) rfl #[.slice A1 l1.length c1] rfl (by (try simp only [List.map_toArray, List.map_cons, List.map_nil]); first | done | rfl | (simp only [List.length_drop, List.length_take]; rfl)) ?_; (with_reducible refine (spec_l1Own.calls _ _ l1 t128 _ ?side1 ?side2 A5.out).mono ?_); (case side1 => repeat (first | exact HR1.out | (with_reducible refine Kd.C_alloc ?_ _) | (with_reducible refine Kd.C_drewN ?_ _) | (with_reducible refine Kd.C_drew ?_))); (case side2 => exact HC1.out); rintro e w6 ⟨v129, rfl, ho0, hb⟩; refine ⟨_, rfl, ?_⟩; have n0_ := Aside0.mk (Kd.R_lower (Kd.R_newM (M := fun k_ => (w.heap.size ≤ k_)) ho0 (below_size (by repeat (first | (with_reducible first | exact HB.out | apply below_alloc | apply pw_below_drewN | apply below_drew1) | exact HB.out))) (fun k_ h_ => h_)) (below_size (by repeat (first | (with_reducible first | exact HB.out | apply below_alloc | apply pw_below_drewN | apply below_drew1) | exact HB.out)))); have n1_ := Aside0.mk (below_step (by repeat (first | (with_reducible first | exact HB.out | apply below_alloc | apply pw_below_drewN | apply below_drew1) | exact HB.out)) hb); clear HB; have HO130 := n0_; have HB := n1_; clear n0_ n1_; (try clear hb); (try clear hb2); (try clear hk); (try clear hi); (try clear ho0); obtain ⟨Ao7, co7, eo7⟩ := Kd.R_slice HO130.out; subst eo7) | ((with_reducible refine gate_dst (N := 17) rfl ?_); (try (refine gate_guard (by rfl) ?_; dsimp only)); refine Kd.N_lit (Kd.slice 3 (Kd.int .i64)) _ 24 ?hg (N' := 17) ?hd (xs := ([t128] : List (List Int))) (inner := [.slice Ao7 t128.length co7]) (ok := (fun k_ => (w.heap.size ≤ k_))) (okp := (fun k_ => (w.heap.size ≤ k_))) ?hr ?hp (fun _ hk => hk) ((show ∀ k_, w6.heap.size ≤ k_ → (fun k_ => (w.heap.size ≤ k_)) k_ from fun k_ hk => (Nat.le_trans (below_size (by repeat (first | (with_reducible first | exact HB.out | apply below_alloc | apply pw_below_drewN | apply below_drew1) | exact HB.out))) hk)) _ (Nat.le_refl _)) (Below.refl _ _) (Nat.le_refl _) (by simp) ?_; (case hd => rfl); (case hg => rfl); (case hr => first | (go_simp; done) | (go_simp; rfl)); (case hp => exact (Reps.one (show Kd.FK (Kd.slice 3 (Kd.int .i64)) _ _ t128 [.slice Ao7 t128.length co7] from (Kd.FK_slice_mk (Kd.R_reads' (Kd.R_mono (ok' := (fun k_ => (w.heap.size ≤ k_))) (HO130.out) (fun k_ hk => hk.1))).2.1 (Kd.R_F (Kd.R_mono (ok' := (fun k_ => (w.heap.size ≤ k_))) (HO130.out) (fun k_ hk => hk.1))))) (Reps.none _ _))); intro v132 w8 ho9 hb hg_ hnew_; clear hg_ hnew_; (first | rw [← Ny131.out] at ho9 | (simp only [Int.reduceToNat] at ho9; rw [← Ny131.out] at ho9)); have n0_ := Aside0.mk (Kd.N_lower ho9 (below_size (by repeat (first | (with_reducible first | exact HB.out | apply below_alloc | apply pw_below_drewN | apply below_drew1) | exact HB.out)))); have n1_ := Aside0.mk (below_step (by repeat (first | (with_reducible first | exact HB.out | apply below_alloc | apply pw_below_drewN | apply below_drew1) | exact HB.out)) hb); clear HB; clear HO130; have HO133 := n0_; have HB := n1_; clear n0_ n1_; clear hb ho9))
   go_ret
   exact ⟨_, by first | rfl | (simp [errW_none, errW_some] <;> rfl) | (simp [*, errW_none, errW_some] <;> rfl), by (with_reducible repeat (first | apply Kd.N_alloc | apply Kd.N_drewN | apply Kd.N_drew)); exact HO133.out, by repeat (first | (with_reducible first | exact HB.out | apply below_alloc | apply pw_below_drewN | apply below_drew1) | exact HB.out)⟩
 · rw [if_neg c4] at H
   have c4b0 : ((l1.length : Int) == (l0.length : Int)) = false := beq_eq_false_iff_ne.mpr c4
   have c4b1 : ((l1.length : Int) != (l0.length : Int)) = true := bne_iff_ne.mpr c4
   have c4b2 : (l1.length == l0.length) = false := by first | simpa using c4 | (simp at c4 ⊢; omega)
   by_cases c10 : 0 ≤ (l1.length : Int)
   · rw [if_pos c10] at H
     have c10b0 : decide (0 ≤ (l1.length : Int)) = true := decide_eq_true c10
     have c10b1 : decide (0 ≤ l1.length) = true := decide_eq_true (by omega)
     clear c10
     by_cases c11 : (l1.length : Int) < (l0.length : Int)
     · rw [if_pos c11] at H
       have c11b0 : decide ((l1.length : Int) < (l0.length : Int)) = true := decide_eq_true c11
       have c11b1 : decide (l1.length < l0.length) = true := decide_eq_true (Int.ofNat_lt.mp c11)
       clear c11
       have H' := Aside0.mk H
       clear H
       have p134 : 0 ≤ ((l1.length : Int) : Int) := of_decide_eq_true (by first | (with_reducible assumption) | assumption)
       have q134 : (l1.length : Int) < (l0.length : Int) := of_decide_eq_true (by first | (with_reducible assumption) | assumption)
       obtain ⟨ad134, A134_0, c134_0, e134, hx134_0, hl134_0, hi134_0⟩ := at_L1 HR0.out (l1.length : Int) p134 q134
       cases e134
       have HR134_0 := Aside0.mk hi134_0
       have HC134_0 := Aside0.mk hl134_0
       clear hi134_0 hl134_0
       (try simp only [Go.IntWalk.toNatUp] at hx134_0)
       replace p134 := eq_true p134
       replace q134 := eq_true q134
       go_enter Try.func45, Try.ntmps45
       go_wp2
       go_loopg [7, 24] k (fun kq v7 v24 w' => ∃ (x7_1 : List (List Int)) (x24_1 : Int), v24 = .int .i64 x24_1 ∧ Aside0 (spec_doPlacings.l0 kq l0 l1 a2 x7_1 (rd_L1 l0 (l1.length : Int)) ((rd_L1 l0 (l1.length : Int)).length : Int) x24_1 = some r) ∧ Aside0 (kq ≤ k) ∧ Aside0 (Kd.N (Kd.slice 3 (Kd.int .i64)) 24 w' w.heap.size (fun k_ => (w.heap.size ≤ k_)) v7 x7_1) ∧ Aside0 (Below w.heap.size w w'))
       case atStart => exact ⟨(([] : List (List Int))), (0), (by first | rfl | (simp; done) | (simp [*]; done)), H', ⟨Nat.le_refl _⟩, ⟨by first | exact Kd.S_nil _ _ _ _ _ | exact Kd.N_nil _ _ _ _ _ | exact Kd.V_nil _ _ _ _ _ | exact Kd.Q_nil _ _ _ _ _ | exact Kd.R_nil _ _ _ _ _⟩, ⟨by repeat (first | (with_reducible first | exact HB.out | apply below_alloc | apply pw_below_drewN | apply below_drew1) | exact HB.out)⟩⟩
       case round =>
        clear H'
        try clear c1
        try clear p1
        try clear q1
        try clear hx1
        try clear p2
        try clear c4
        try clear c4b0
        try clear c4b1
        try clear c4b2
        try clear c10
        try clear c10b0
        try clear c10b1
        try clear c11
        try clear c11b0
        try clear c11b1
        try clear hx134_0
        try clear p134
        try clear q134
        obtain ⟨x7_1, x24_1, rfl, HA, HK1, HO_7, HB⟩ := hrel
        cases gk with
        | zero => exact absurd HA.out (by simp [spec_doPlacings.l0])
        | succ k1 =>
         have H := HA.out
         clear HA
         simp only [spec_doPlacings.l0] at H
         by_cases c12 : x24_1 < ((rd_L1 l0 (l1.length : Int)).length : Int)
         · rw [if_pos c12] at H
           have c12b0 : decide (x24_1 < ((rd_L1 l0 (l1.length : Int)).length : Int)) = true := decide_eq_true c12
           clear c12
           by_cases c13 : 0 ≤ x24_1
           · rw [if_pos c13] at H
             have c13b0 : decide (0 ≤ x24_1) = true := decide_eq_true c13
             clear c13
             by_cases c14 : x24_1 < ((rd_L1 l0 (l1.length : Int)).length : Int)
             · rw [if_pos c14] at H
               have c14b0 : decide (x24_1 < ((rd_L1 l0 (l1.length : Int)).length : Int)) = true := decide_eq_true c14
               clear c14
               have HC15 := Aside0.mk H
               clear H
               have p135 : 0 ≤ (x24_1 : Int) := of_decide_eq_true (by first | (with_reducible assumption) | assumption)
               have q135 : x24_1 < ((rd_L1 l0 (l1.length : Int)).length : Int) := of_decide_eq_true (by first | (with_reducible assumption) | assumption)
               obtain ⟨ad135, e135, hx135_0⟩ := Kd.at_int HR134_0.out x24_1 p135 q135
               cases e135
               replace hx135_0 := (HB.out.cell (World.block_lt_of_cell? w _ hx135_0)).trans hx135_0
               replace p135 := eq_true p135
               replace q135 := eq_true q135
               go_upto_region 7 with (fail)
               go_cut [42] (fun v42 wc => ∃ (kq : Nat) (x42_14 : Bool), v42 = .bool x42_14 ∧ Aside0 (spec_doPlacings.j1 kq l0 l1 a2 x7_1 x24_1 (rd_L1 l0 (l1.length : Int)) ((rd_L1 l0 (l1.length : Int)).length : Int) x24_1 x42_14 = some r) ∧ Aside0 (kq ≤ k1) ∧ Aside0 (Kd.N (Kd.slice 3 (Kd.int .i64)) 24 wc w.heap.size (fun k_ => (w.heap.size ≤ k_)) u7 x7_1) ∧ Aside0 (Below w.heap.size w wc))
               case first =>
                have H := HC15.out
                clear HC15
                by_cases c16 : (rd (rd_L1 l0 (l1.length : Int)) x24_1) > 0
                · rw [if_pos c16] at H
                  have c16b0 : decide (0 < (rd (rd_L1 l0 (l1.length : Int)) x24_1)) = true := decide_eq_true c16
                  clear c16
                  (first | rw [c16b0] | (simp only [i64_w, i32_w]; rw [c16b0]) | skip)
                  replace H := Option.bind_eq_some_iff.mp H
                  obtain ⟨t136, A170, H⟩ := H
                  replace H : (if t136 = true then (spec_doPlacings.j1 k1 l0 l1 a2 x7_1 x24_1 (rd_L1 l0 (l1.length : Int)) ((rd_L1 l0 (l1.length : Int)).length : Int) x24_1 false) else (spec_doPlacings.j1 k1 l0 l1 a2 x7_1 x24_1 (rd_L1 l0 (l1.length : Int)) ((rd_L1 l0 (l1.length : Int)).length : Int) x24_1 (decide ((x7_1.length : Int) < a2)))) = some r := H
                  have A17 := Aside0.mk A170
                  clear A170
                  by_cases c18 : t136 = true
                  · subst c18
                    have H1 : (spec_doPlacings.j1 k1 l0 l1 a2 x7_1 x24_1 (rd_L1 l0 (l1.length : Int)) ((rd_L1 l0 (l1.length : Int)).length : Int) x24_1 false) = some r := by rw [if_pos rfl] at H; exact H
                    clear H
                    have H := H1
                    clear H1
                    have H' := Aside0.mk H
                    clear H
                    go_wp2_with (first | (go_at_call 93; (with_reducible refine (spec_l1Has.calls k1 _ _ l1 x24_1 true _ ?side1 ?side2 A17.out).mono ?_); (case side1 => repeat (first | exact (Kd.C_below HR1.out HB.out) | (with_reducible refine Kd.C_alloc ?_ _) | (with_reducible refine Kd.C_drewN ?_ _) | (with_reducible refine Kd.C_drew ?_))); (case side2 => exact HC1.out); rintro e w' ⟨rfl, ⟨nd, rfl⟩⟩))
                    go_meet
                    case rel => exact ⟨_, (false), (by first | rfl | (simp; done) | (simp [*]; done)), H', ⟨by have := HK1.out; first | omega | exact Nat.le_refl _⟩, ⟨by (with_reducible repeat (first | apply Kd.N_alloc | apply Kd.N_drewN | apply Kd.N_drew)); exact HO_7.out⟩, ⟨by repeat (first | (with_reducible first | exact HB.out | apply below_alloc | apply pw_below_drewN | apply below_drew1) | exact HB.out)⟩⟩
                  · replace c18 := Bool.eq_false_iff.mpr c18
                    subst c18
                    have H1 : (spec_doPlacings.j1 k1 l0 l1 a2 x7_1 x24_1 (rd_L1 l0 (l1.length : Int)) ((rd_L1 l0 (l1.length : Int)).length : Int) x24_1 (decide ((x7_1.length : Int) < a2))) = some r := by rw [if_neg (show ¬ (false = true) by decide)] at H; exact H
                    clear H
                    have H := H1
                    clear H1
                    have H' := Aside0.mk H
                    clear H
                    go_wp2_with (first | (go_at_call 93; (with_reducible refine (spec_l1Has.calls k1 _ _ l1 x24_1 false _ ?side1 ?side2 A17.out).mono ?_); (case side1 => repeat (first | exact (Kd.C_below HR1.out HB.out) | (with_reducible refine Kd.C_alloc ?_ _) | (with_reducible refine Kd.C_drewN ?_ _) | (with_reducible refine Kd.C_drew ?_))); (case side2 => exact HC1.out); rintro e w' ⟨rfl, ⟨nd, rfl⟩⟩; obtain ⟨Ao19, co19, eo19⟩ := Kd.N_slice HO_7.out; subst eo19))
                    go_meet
                    case rel => exact ⟨_, (decide ((x7_1.length : Int) < a2)), (by first | rfl | (simp; done) | (simp [*]; done)), H', ⟨by have := HK1.out; first | omega | exact Nat.le_refl _⟩, ⟨by (with_reducible repeat (first | apply Kd.N_alloc | apply Kd.N_drewN | apply Kd.N_drew)); exact HO_7.out⟩, ⟨by repeat (first | (with_reducible first | exact HB.out | apply below_alloc | apply pw_below_drewN | apply below_drew1) | exact HB.out)⟩⟩
                · rw [if_neg c16] at H
                  have c16b0 : decide (0 < (rd (rd_L1 l0 (l1.length : Int)) x24_1)) = false := decide_eq_false c16
                  clear c16
                  (first | rw [c16b0] | (simp only [i64_w, i32_w]; rw [c16b0]) | skip)
                  have H' := Aside0.mk H
                  clear H
                  go_wp2
                  go_meet
                  case rel => exact ⟨_, (false), (by first | rfl | (simp; done) | (simp [*]; done)), H', ⟨by have := HK1.out; first | omega | exact Nat.le_refl _⟩, ⟨by (with_reducible repeat (first | apply Kd.N_alloc | apply Kd.N_drewN | apply Kd.N_drew)); exact HO_7.out⟩, ⟨by repeat (first | (with_reducible first | exact HB.out | apply below_alloc | apply pw_below_drewN | apply below_drew1) | exact HB.out)⟩⟩
               case rest =>
                clear HC15
                try clear c1
                try clear p1
                try clear q1
                try clear hx1
                try clear p2
                try clear c4
                try clear c4b0
                try clear c4b1
                try clear c4b2
                try clear c10
                try clear c10b0
                try clear c10b1
                try clear c11
                try clear c11b0
                try clear c11b1
                try clear c12
                try clear c12b0
                try clear c13
                try clear c13b0
                try clear p13
                try clear q13
                try clear hx13
                try clear c14
                try clear c14b0
                try clear c16
                try clear c16b0
                try clear c18
                try clear hx134_0
                try clear hx135_0
                try clear p1
                try clear p134
                try clear p135
                try clear p2
                try clear q1
                try clear q134
                try clear q135
                obtain ⟨kq, x42_14, rfl, HA, HJ14, HO_7, HB⟩ := hcut
                cases kq with
                | zero => exact absurd HA.out (by simp [spec_doPlacings.j1])
                | succ kj14 =>
                 have H := HA.out
                 clear HA
                 simp only [spec_doPlacings.j1] at H
                 by_cases c20 : x42_14 = true
                 · subst c20
                   have H1 : ((spec_l1Own.f l1).bind fun t137 => (if t137.length < 17592186044416 then ((spec_doPlacings.f kj14 l0 (t137 ++ [x24_1]) (wrap64 (a2 - (x7_1.length : Int)))).bind fun t143 => (if x7_1.length + t143.length < 5864062014805 then (spec_doPlacings.l0 kj14 l0 l1 a2 (x7_1 ++ t143) (rd_L1 l0 (l1.length : Int)) ((rd_L1 l0 (l1.length : Int)).length : Int) (wrap64 (x24_1 + 1))) else (none))) else (none))) = some r := by rw [if_pos rfl] at H; exact H
                   clear H
                   have H := H1
                   clear H1
                   replace H := Option.bind_eq_some_iff.mp H
                   obtain ⟨t137, A210, H⟩ := H
                   replace H : (if t137.length < 17592186044416 then ((spec_doPlacings.f kj14 l0 (t137 ++ [x24_1]) (wrap64 (a2 - (x7_1.length : Int)))).bind fun t143 => (if x7_1.length + t143.length < 5864062014805 then (spec_doPlacings.l0 kj14 l0 l1 a2 (x7_1 ++ t143) (rd_L1 l0 (l1.length : Int)) ((rd_L1 l0 (l1.length : Int)).length : Int) (wrap64 (x24_1 + 1))) else (none))) else (none)) = some r := H
                   have A21 := Aside0.mk A210
                   clear A210
                   by_cases c22 : t137.length < 17592186044416
                   · rw [if_pos c22] at H
                     have LMc22 := Aside0.mk c22
                     clear c22
                     obtain ⟨y140, hy140⟩ : ∃ y_ : List Int, y_ = (t137 ++ [x24_1]) := ⟨_, rfl⟩
                     replace H : ((spec_doPlacings.f kj14 l0 y140 (wrap64 (a2 - (x7_1.length : Int)))).bind fun t143 => (if x7_1.length + t143.length < 5864062014805 then (spec_doPlacings.l0 kj14 l0 l1 a2 (x7_1 ++ t143) (rd_L1 l0 (l1.length : Int)) ((rd_L1 l0 (l1.length : Int)).length : Int) (wrap64 (x24_1 + 1))) else (none))) = some r := by first | (rw [hy140]; with_reducible exact H) | (have H2_ := (Option.bind_some _ _).symm.trans H; rw [hy140]; with_reducible exact H2_) | (have H2_ := (Option.bind_some _ _).symm.trans H; with_reducible exact H2_) | with_reducible exact H | (rw [hy140]; exact H) | exact H
                     have Ny140 := Aside0.mk hy140
                     clear hy140
                     replace H := Option.bind_eq_some_iff.mp H
                     obtain ⟨t143, A230, H⟩ := H
                     replace H : (if x7_1.length + t143.length < 5864062014805 then (spec_doPlacings.l0 kj14 l0 l1 a2 (x7_1 ++ t143) (rd_L1 l0 (l1.length : Int)) ((rd_L1 l0 (l1.length : Int)).length : Int) (wrap64 (x24_1 + 1))) else (none)) = some r := H
                     have A23 := Aside0.mk A230
                     clear A230
                     by_cases c24 : x7_1.length + t143.length < 5864062014805
                     · rw [if_pos c24] at H
                       have LMc24 := Aside0.mk c24
                       clear c24
                       obtain ⟨y146, hy146⟩ : ∃ y_ : List (List Int), y_ = (x7_1 ++ t143) := ⟨_, rfl⟩
                       replace H : (spec_doPlacings.l0 kj14 l0 l1 a2 y146 (rd_L1 l0 (l1.length : Int)) ((rd_L1 l0 (l1.length : Int)).length : Int) (wrap64 (x24_1 + 1))) = some r := by first | (rw [hy146]; with_reducible exact H) | (have H2_ := (Option.bind_some _ _).symm.trans H; rw [hy146]; with_reducible exact H2_) | (have H2_ := (Option.bind_some _ _).symm.trans H; with_reducible exact H2_) | with_reducible exact H | (rw [hy146]; exact H) | exact H
                       have Ny146 := Aside0.mk hy146
                       clear hy146
                       have H' := Aside0.mk H
                       clear H
                       go_wp2_with (first | ((with_reducible refine gate_callee (f := 44) rfl ?_); refine goesL_ (some 46) rfl rfl Try.func44 (by kernel_rfl) rfl #[.slice A1 l1.length c1] rfl (by (try simp only [List.map_toArray, List.map_cons, List.map_nil]); first | done | rfl | (simp only [List.length_drop, List.length_take]; rfl)) ?_; (with_reducible refine (spec_l1Own.calls _ _ l1 t137 _ ?side1 ?side2 A21.out).mono ?_); (case side1 => repeat (first | exact (Kd.C_below HR1.out HB.out) | (with_reducible refine Kd.C_alloc ?_ _) | (with_reducible refine Kd.C_drewN ?_ _) | (with_reducible refine Kd.C_drew ?_))); (case side2 => exact HC1.out); rintro e w25 ⟨v138, rfl, ho0, hb⟩; refine ⟨_, rfl, ?_⟩; have n0_ := Aside0.mk (Kd.N_elder' (by (with_reducible repeat (first | apply Kd.N_alloc | apply Kd.N_drewN | apply Kd.N_drew)); exact HO_7.out) (Kd.R_base ho0) hb); have n1_ := Aside0.mk (Kd.R_lower (Kd.R_newM (M := fun k_ => (w.heap.size ≤ k_)) ho0 (below_size (by repeat (first | (with_reducible first | exact HB.out | apply below_alloc | apply pw_below_drewN | apply below_drew1) | exact HB.out))) (fun k_ h_ => h_)) (below_size (by repeat (first | (with_reducible first | exact HB.out | apply below_alloc | apply pw_below_drewN | apply below_drew1) | exact HB.out)))); have n2_ := Aside0.mk (below_step (by repeat (first | (with_reducible first | exact HB.out | apply below_alloc | apply pw_below_drewN | apply below_drew1) | exact HB.out)) hb); clear HO_7; clear HB; have HO_7 := n0_; have HO139 := n1_; have HB := n2_; clear n0_ n1_ n2_; (try clear hb); (try clear hb2); (try clear hk); (try clear hi); (try clear ho0)) | ((with_reducible refine gate_builtin (b := .append) (xs := #[.tmp 46, .tmp 48]) rfl ?_); (try (refine gate_guard (by rfl) ?_; dsimp only)); at_builtin; refine Kd.R_append (Kd.int .i64) (w0 := w) w.heap.size rfl (.tmp 46) (.tmp 48) 24 3 (.int .i64 0) 8 rfl Try.underlying24 info3 rfl (by decide) (by omega) v138 t137 x24_1 [.int .i64 x24_1] (fun k_ => (w.heap.size ≤ k_)) (fun _ => False) rfl rfl ?aP (fun _ hk => hk.elim) ?aF ?aO ?aB ?aS ?aL ?_; (case aP => exact rfl); (case aB => exact (by repeat (first | (with_reducible first | exact HB.out | apply below_alloc | apply pw_below_drewN | apply below_drew1) | exact HB.out))); (case aF => exact (fun k_ hk => (Nat.le_trans (below_size (by repeat (first | (with_reducible first | exact HB.out | apply below_alloc | apply pw_below_drewN | apply below_drew1) | exact HB.out))) hk))); (case aO => exact (by (with_reducible repeat (first | apply Kd.R_alloc | apply Kd.R_drewN | apply Kd.R_drew)); exact Kd.R_mono HO139.out (fun _ hk => hk.1))); (case aS => exact (below_size (by repeat (first | (with_reducible first | exact HB.out | apply below_alloc | apply pw_below_drewN | apply below_drew1) | exact HB.out)))); (case aL => have := LMc22.out; omega); intro v141 w26 ho hb hg hat; rw [← Ny140.out] at ho; have n0_ := Aside0.mk (Kd.N_afterv (ok := (fun k_ => (w.heap.size ≤ k_))) (by (with_reducible repeat (first | apply Kd.N_alloc | apply Kd.N_drewN | apply Kd.N_drew)); exact HO_7.out) hg hat); have n1_ := Aside0.mk (hb); have n2_ := Aside0.mk (ho); clear HO_7; clear HB; clear HO139; have HO_7 := n0_; have HB := n1_; have HO142 := n2_; clear n0_ n1_ n2_; clear ho hb hg hat; obtain ⟨Ao27, co27, eo27⟩ := Kd.N_slice HO_7.out; subst eo27; obtain ⟨Ao28, co28, eo28⟩ := Kd.R_slice HO142.out; subst eo28) | ((with_reducible refine gate_callee (f := 45) rfl ?_); refine goesL_ (some 54) rfl rfl Try.func45 (by kernel_rfl) rfl #[.slice (some ad134) l0.length c0, .slice Ao28 y140.length co28, .int .i64 (wrap64 (a2 - (x7_1.length : Int)))] rfl (by (try simp only [List.map_toArray, List.map_cons, List.map_nil]); first | done | rfl | (simp only [List.length_drop, List.length_take]; rfl)) ?_; (with_reducible refine (ih kj14 (by have := HK1.out; have := HJ14.out; omega) _ _ l0 _ _ y140 (wrap64 (a2 - (x7_1.length : Int))) t143 _ ?side1 ?side2 ?side3 ?side4 A23.out).mono ?_); (case side1 => repeat (first | exact (Kd.C_below HR0.out HB.out) | (with_reducible refine Kd.C_alloc ?_ _) | (with_reducible refine Kd.C_drewN ?_ _) | (with_reducible refine Kd.C_drew ?_))); (case side2 => exact HC0.out); (case side3 => repeat (first | exact (Kd.R_reads' HO142.out).2.2 | (with_reducible refine Kd.C_alloc ?_ _) | (with_reducible refine Kd.C_drewN ?_ _) | (with_reducible refine Kd.C_drew ?_))); (case side4 => exact (Kd.R_reads' HO142.out).2.1); rintro e w29 ⟨v144, rfl, ho0, hb⟩; refine ⟨_, rfl, ?_⟩; have n0_ := Aside0.mk (Kd.N_elder' (by (with_reducible repeat (first | apply Kd.N_alloc | apply Kd.N_drewN | apply Kd.N_drew)); exact HO_7.out) (Kd.N_base ho0) hb); have n1_ := Aside0.mk (Kd.R_below (by (with_reducible repeat (first | apply Kd.R_alloc | apply Kd.R_drewN | apply Kd.R_drew)); exact HO142.out) hb); have n2_ := Aside0.mk (Kd.N_lower (Kd.N_mono (ok' := fun k_ => (w.heap.size ≤ k_) ∧ some k_ ≠ (.slice Ao27 x7_1.length co27 : Value).ownBlock ∧ some k_ ≠ (.slice Ao28 y140.length co28 : Value).ownBlock) ho0 (fun k_ hk_ => ⟨(Nat.le_trans (below_size (by repeat (first | (with_reducible first | exact HB.out | apply below_alloc | apply pw_below_drewN | apply below_drew1) | exact HB.out))) hk_), (Kd.fresh' (Kd.N_lt (by (with_reducible repeat (first | apply Kd.N_alloc | apply Kd.N_drewN | apply Kd.N_drew)); exact HO_7.out)) k_ hk_), (Kd.fresh' (Kd.R_lt (by (with_reducible repeat (first | apply Kd.R_alloc | apply Kd.R_drewN | apply Kd.R_drew)); exact HO142.out)) k_ hk_)⟩)) (below_size (by repeat (first | (with_reducible first | exact HB.out | apply below_alloc | apply pw_below_drewN | apply below_drew1) | exact HB.out)))); have n3_ := Aside0.mk (below_step (by repeat (first | (with_reducible first | exact HB.out | apply below_alloc | apply pw_below_drewN | apply below_drew1) | exact HB.out)) hb); clear HO_7; clear HO142; clear HB; have HO_7 := n0_; have HO142 := n1_; have HO145 := n2_; have HB := n3_; clear n0_ n1_ n2_ n3_; (try clear hb); (try clear hb2); (try clear hk); (try clear hi); (try clear ho0); obtain ⟨Ao31, co31, eo31⟩ := Kd.N_slice HO145.out; subst eo31) | ((with_reducible refine gate_builtin (b := .append) (xs := #[.tmp 43, .tmp 54]) rfl ?_); (try (refine gate_guard (by rfl) ?_; dsimp only)); at_builtin; refine Kd.N_append_rows (Kd.slice 3 (Kd.int .i64)) (w0 := w) w.heap.size rfl (.tmp 43) (.tmp 54) 22 24 (.slice none 0 0) 24 rfl Try.underlying22 info24 rfl (by decide) (by omega) (.slice Ao27 x7_1.length co27) x7_1 t143 _ _ _ (fun k_ => (w.heap.size ≤ k_) ∧ some k_ ≠ (.slice Ao28 y140.length co28 : Value).ownBlock) (fun k_ => ((fun k_ => (w.heap.size ≤ k_) ∧ some k_ ≠ (.slice Ao28 y140.length co28 : Value).ownBlock)) k_ ∧ some k_ ≠ (.slice Ao27 x7_1.length co27 : Value).ownBlock) rfl rfl ?aO ?aR (fun _ hk => hk) ?aF ?aB ?aS ?aL ?_; (case aR => exact (by skip; exact Kd.N_F (Kd.N_mono (ok' := (fun k_ => ((fun k_ => (w.heap.size ≤ k_) ∧ some k_ ≠ (.slice Ao28 y140.length co28 : Value).ownBlock)) k_ ∧ some k_ ≠ (.slice Ao27 x7_1.length co27 : Value).ownBlock)) (HO145.out) (fun k_ hk => ⟨⟨hk.1, hk.2.2⟩, hk.2.1⟩)))); (case aB => exact (by repeat (first | (with_reducible first | exact HB.out | apply below_alloc | apply pw_below_drewN | apply below_drew1) | exact HB.out))); (case aF => exact (fun k_ hk => ⟨(Nat.le_trans (below_size (by repeat (first | (with_reducible first | exact HB.out | apply below_alloc | apply pw_below_drewN | apply below_drew1) | exact HB.out))) hk), Kd.fresh' (Kd.R_lt (by (with_reducible repeat (first | apply Kd.R_alloc | apply Kd.R_drewN | apply Kd.R_drew)); exact HO142.out)) k_ hk⟩)); (case aO => exact (by (with_reducible repeat (first | apply Kd.N_alloc | apply Kd.N_drewN | apply Kd.N_drew)); exact Kd.N_mono HO_7.out (fun _ hk => ⟨hk.1.1, hk.1.2⟩))); (case aS => exact (below_size (by repeat (first | (with_reducible first | exact HB.out | apply below_alloc | apply pw_below_drewN | apply below_drew1) | exact HB.out)))); (case aL => have := LMc24.out; omega); intro v147 w30 ho hb hg hat; rw [← Ny146.out] at ho; have n0_ := Aside0.mk (Kd.R_over' (by (with_reducible repeat (first | apply Kd.R_alloc | apply Kd.R_drewN | apply Kd.R_drew)); exact HO142.out) (Kd.N_typed (by (with_reducible repeat (first | apply Kd.N_alloc | apply Kd.N_drewN | apply Kd.N_drew)); exact HO_7.out)) (by decide) hg); have n1_ := Aside0.mk (Kd.N_afterv (ok := (fun k_ => (w.heap.size ≤ k_) ∧ some k_ ≠ (.slice Ao28 y140.length co28 : Value).ownBlock)) (by (with_reducible repeat (first | apply Kd.N_alloc | apply Kd.N_drewN | apply Kd.N_drew)); exact Kd.N_mono HO145.out (fun _ hk => ⟨⟨hk.1, hk.2.2⟩, hk.2.1⟩)) hg hat); have n2_ := Aside0.mk (hb); have n3_ := Aside0.mk (ho); clear HO142; clear HO145; clear HB; clear HO_7; have HO142 := n0_; have HO145 := n1_; have HB := n2_; have HO148 := n3_; clear n0_ n1_ n2_ n3_; clear ho hb hg hat))
                       go_roundg kj14
                       case measure => have := HK1.out; have := HJ14.out; omega
                       case rel => exact ⟨(y146), (wrap64 (x24_1 + 1)), (by first | rfl | (simp; done) | (simp [*]; done)), H', ⟨by have := HK1.out; have := HJ14.out; omega⟩, ⟨by (with_reducible repeat (first | apply Kd.N_alloc | apply Kd.N_drewN | apply Kd.N_drew)); exact Kd.N_mono HO148.out (fun _ hk => hk.1)⟩, ⟨by repeat (first | (with_reducible first | exact HB.out | apply below_alloc | apply pw_below_drewN | apply below_drew1) | exact HB.out)⟩⟩
                     · rw [if_neg c24] at H
                       exact absurd H (by simp)
                   · rw [if_neg c22] at H
                     exact absurd H (by simp)
                 · replace c20 := Bool.eq_false_iff.mpr c20
                   subst c20
                   have H1 : (spec_doPlacings.l0 kj14 l0 l1 a2 x7_1 (rd_L1 l0 (l1.length : Int)) ((rd_L1 l0 (l1.length : Int)).length : Int) (wrap64 (x24_1 + 1))) = some r := by rw [if_neg (show ¬ (false = true) by decide)] at H; exact H
                   clear H
                   have H := H1
                   clear H1
                   have H' := Aside0.mk H
                   clear H
                   go_wp2
                   go_roundg kj14
                   case measure => have := HK1.out; have := HJ14.out; omega
                   case rel => exact ⟨(x7_1), (wrap64 (x24_1 + 1)), (by first | rfl | (simp; done) | (simp [*]; done)), H', ⟨by have := HK1.out; have := HJ14.out; omega⟩, ⟨by (with_reducible repeat (first | apply Kd.N_alloc | apply Kd.N_drewN | apply Kd.N_drew)); exact HO_7.out⟩, ⟨by repeat (first | (with_reducible first | exact HB.out | apply below_alloc | apply pw_below_drewN | apply below_drew1) | exact HB.out)⟩⟩
             · rw [if_neg c14] at H
               exact absurd H (by simp)
           · rw [if_neg c13] at H
             exact absurd H (by simp)
         · rw [if_neg c12] at H
           have c12b0 : decide (x24_1 < ((rd_L1 l0 (l1.length : Int)).length : Int)) = false := decide_eq_false c12
           clear c12
           obtain rfl := Option.some.inj H
           go_wp2
           go_ret
           exact ⟨_, by first | rfl | (simp [errW_none, errW_some] <;> rfl) | (simp [*, errW_none, errW_some] <;> rfl), by (with_reducible repeat (first | apply Kd.N_alloc | apply Kd.N_drewN | apply Kd.N_drew)); exact HO_7.out, by repeat (first | (with_reducible first | exact HB.out | apply below_alloc | apply pw_below_drewN | apply below_drew1) | exact HB.out)⟩
     · rw [if_neg c11] at H
       exact absurd H (by simp)
   · rw [if_neg c10] at H
     exact absurd H (by simp)

end Go.Proofs.Ytkhpojcplejdjaa.A

-- made by a program of this repo (wip/pp.py) through the kit's printer
namespace Go.Proofs.Ytkhpojcplejdjaa.A
open Go.RowKit Go.Proofs.YtkhpojcplejdjaaW.PrintWords Go.Proofs.YtkhpojcplejdjaaW.PrintLast Go.Proofs.YtkhpojcplejdjaaW.PrintMore
attribute [local go_sem] max2_int min2_int max_two min_two max_three min_three max_four min_four
set_option linter.unusedVariables false
set_option linter.unusedSimpArgs false

/-! ### spec_l1Least: function 46 -/
def spec_l1Least.f (a0 : Int) (a1 : Int) : Option (Int) := if a0 < a1 then (some a0) else (some a1)
set_option maxHeartbeats 8000000 in
set_option maxRecDepth 100000 in
theorem spec_l1Least.calls (a0 : Int) (a1 : Int) (r : Int) (w : World) (h : spec_l1Least.f a0 a1 = some r) :
 Calls Try.prog 46 #[.int .i64 a0, .int .i64 a1] w fun e w' => e = .returned (.int .i64 r) ∧ Drawn0 w w' := by
 have H : (if a0 < a1 then (some a0) else (some a1)) = some r := h
 clear h
 by_cases c3 : a0 < a1
 · rw [if_pos c3] at H
   have c3b0 : decide (a0 < a1) = true := decide_eq_true c3
   clear c3
   obtain rfl := Option.some.inj H
   go_enter Try.func46, Try.ntmps46
   go_wp2
   go_ret
   exact ⟨by first | rfl | (simp; done) | (simp [*]; done), by repeat (first | exact Drawn0.refl _ | apply Drawn0.step)⟩
 · rw [if_neg c3] at H
   have c3b0 : decide (a0 < a1) = false := decide_eq_false c3
   clear c3
   obtain rfl := Option.some.inj H
   go_enter Try.func46, Try.ntmps46
   go_wp2
   go_ret
   exact ⟨by first | rfl | (simp; done) | (simp [*]; done), by repeat (first | exact Drawn0.refl _ | apply Drawn0.step)⟩

end Go.Proofs.Ytkhpojcplejdjaa.A

namespace Go.Proofs.Ytkhpojcplejdjaa.A
open Go.RowKit Go.Proofs.YtkhpojcplejdjaaW.PrintWords Go.Proofs.YtkhpojcplejdjaaW.PrintLast Go.Proofs.YtkhpojcplejdjaaW.PrintMore
set_option linter.unusedVariables false
set_option linter.unusedSimpArgs false
theorem l1Least_eq (a b : Int) : spec_l1Least.f a b = some (min a b) := by
 unfold spec_l1Least.f
 split <;> (congr 1; omega)
end Go.Proofs.Ytkhpojcplejdjaa.A

/- spec.PartsOf (the text up to the outer loop printed by wip/mkspartsof.py, the outer loop by hand) -/
namespace Go.Proofs.Ytkhpojcplejdjaa.A
open Go.RowKit Go.Proofs.YtkhpojcplejdjaaW.PrintWords Go.Proofs.YtkhpojcplejdjaaW.PrintLast Go.Proofs.YtkhpojcplejdjaaW.PrintMore
attribute [local go_sem] max2_int min2_int max_two min_two max_three min_three max_four min_four
set_option linter.unusedVariables false
set_option linter.unusedSimpArgs false

def spec_PartsOf.l1 : Nat → List (List Int) → List (List Int) → List Int → Option ((List (List Int)) × List Int × Bool)
 | 0, _, _, _ => none
 | k + 1, x5, x8, x9 => (spec_doSum.f k x5).bind fun s => (if s > 0 then ((spec_doPlacings.f k x5 ([] : List Int) 1).bind fun q => (if 0 < q.length ∧ 0 < (rd_L1 q 0).length ∧ pOk x5 (rd_L1 q 0) 0 = true then ((pLeast x5 (rd_L1 q 0) (rd_L1 q 0).length 0 (pEnt x5 (rd_L1 q 0) 0)).bind fun c => ((pSub (rd_L1 q 0) c (rd_L1 q 0).length 0 x5).bind fun y => (if x8.length < 1000000 ∧ x9.length < 1000000 then (spec_PartsOf.l1 k y (x8 ++ [rd_L1 q 0]) (x9 ++ [c])) else none))) else none)) else (some (x8, x9, true)))
def spec_PartsOf.l0 : Nat → List (List Int) → List (List Int) → Int → Int → Option ((List (List Int)) × List Int × Bool)
 | 0, _, _, _, _ => none
 | k + 1, x5, x27, x28, x29 => if x29 < x28 then (if 0 ≤ x29 then (if x29 < (x27.length : Int) then ((spec_l1Own.f (rd_L1 x27 x29)).bind fun t155 => (if x29 < (x5.length : Int) then (spec_PartsOf.l0 k (x5.set (x29 : Int).toNat t155) x27 x28 (wrap64 (x29 + 1))) else (none))) else (none)) else (none)) else (spec_PartsOf.l1 k x5 ([] : List (List Int)) ([] : List Int))
def spec_PartsOf.j0 : Nat → List (List Int) → Bool → Option ((List (List Int)) × List Int × Bool)
 | 0, _, _ => none
 | k + 1, x0, x23 => if x23 = true then (some (([] : List (List Int)), ([] : List Int), false)) else ((spec_doEmpty.f k (x0.length : Int)).bind fun t151 => (spec_PartsOf.l0 k t151 x0 (x0.length : Int) 0))
def spec_PartsOf.f (k : Nat) (l0 : List (List Int)) : Option ((List (List Int)) × List Int × Bool) := (spec_doGood.f k l0).bind fun t149 => (if t149 = true then ((spec_doSum.f k l0).bind fun t150 => (spec_PartsOf.j0 k l0 (decide (t150 < 0)))) else (spec_PartsOf.j0 k l0 true))
set_option maxHeartbeats 8000000 in
set_option maxRecDepth 100000 in
theorem spec_PartsOf.calls (k : Nat) (A0 : Option Addr) (c0 : Nat) (l0 : List (List Int)) (r1 : List (List Int)) (r2 : List Int) (r3 : Bool) (w : World) (hr0 : Kd.C (Kd.slice 3 (Kd.int .i64)) w A0 l0.length l0) (hc0 : l0.length ≤ c0) (h : spec_PartsOf.f k l0 = some (r1, r2, r3)) :
 Calls Try.prog 8 #[.slice A0 l0.length c0] w fun e w' => ∃ v0_ v1_ : Value, e = .returned (.tuple #[v0_, v1_, .bool r3]) ∧ Kd.N (Kd.slice 3 (Kd.int .i64)) 24 w' w.heap.size (fun k_ => w.heap.size ≤ k_ ∧ some k_ ≠ (v1_ : Value).ownBlock) v0_ r1 ∧ Kd.R (Kd.int .i64) 3 w' w.heap.size (fun _ => True) v1_ r2 ∧ Below w.heap.size w w' := by
 have HR0 := Aside0.mk hr0
 have HC0 := Aside0.mk hc0
 clear hr0 hc0
 have HB := Aside0.mk (Below.refl w.heap.size w)
 have H : ((spec_doGood.f k l0).bind fun t149 => (if t149 = true then ((spec_doSum.f k l0).bind fun t150 => (spec_PartsOf.j0 k l0 (decide (t150 < 0)))) else (spec_PartsOf.j0 k l0 true))) = some (r1, r2, r3) := h
 clear h
 have HC2 := Aside0.mk H
 clear H
 go_enter Try.func8, Try.ntmps8
 go_upto_region 1 with (fail)
 repeat (go_quiet (fail); go_upto_region 1 with (fail))
 go_cut [23] (fun v23 wc => ∃ (kq : Nat) (x23_1 : Bool), v23 = .bool x23_1 ∧ Aside0 (spec_PartsOf.j0 kq l0 x23_1 = some (r1, r2, r3)) ∧ Aside0 (kq ≤ k) ∧ Aside0 (Below w.heap.size w wc))
 case first =>
  have H := HC2.out
  clear HC2
  replace H := Option.bind_eq_some_iff.mp H
  obtain ⟨t149, A30, H⟩ := H
  replace H : (if t149 = true then ((spec_doSum.f k l0).bind fun t150 => (spec_PartsOf.j0 k l0 (decide (t150 < 0)))) else (spec_PartsOf.j0 k l0 true)) = some (r1, r2, r3) := H
  have A3 := Aside0.mk A30
  clear A30
  by_cases c4 : t149 = true
  · subst c4
    have H1 : ((spec_doSum.f k l0).bind fun t150 => (spec_PartsOf.j0 k l0 (decide (t150 < 0)))) = some (r1, r2, r3) := by rw [if_pos rfl] at H; exact H
    clear H
    have H := H1
    clear H1
    replace H := Option.bind_eq_some_iff.mp H
    obtain ⟨t150, A50, H⟩ := H
    replace H : (spec_PartsOf.j0 k l0 (decide (t150 < 0))) = some (r1, r2, r3) := H
    have A5 := Aside0.mk A50
    clear A50
    have H' := Aside0.mk H
    clear H
    go_wp2_with (first | (go_at_call 41; (with_reducible refine (spec_doGood.calls k _ _ l0 true _ ?side1 ?side2 A3.out).mono ?_); (case side1 => repeat (first | exact (Kd.C_below HR0.out HB.out) | (with_reducible refine Kd.C_alloc ?_ _) | (with_reducible refine Kd.C_drewN ?_ _) | (with_reducible refine Kd.C_drew ?_))); (case side2 => exact HC0.out); rintro e w' ⟨rfl, ⟨nd, rfl⟩⟩; (try first | exact ⟨rfl, _, World.drewN_drewN _ _ _⟩ | exact ⟨rfl, _, Eq.trans (World.drewN_drewN _ _ _) (congrArg (World.drewN _) (Nat.add_assoc _ _ _))⟩)) | (go_at_call 42; (with_reducible refine (spec_doSum.calls k _ _ l0 t150 _ ?side1 ?side2 A5.out).mono ?_); (case side1 => repeat (first | exact (Kd.C_below HR0.out (by repeat (first | (with_reducible first | exact HB.out | apply below_alloc | apply pw_below_drewN | apply below_drew1) | exact HB.out))) | (with_reducible refine Kd.C_alloc ?_ _) | (with_reducible refine Kd.C_drewN ?_ _) | (with_reducible refine Kd.C_drew ?_))); (case side2 => exact HC0.out); rintro e w' ⟨rfl, ⟨nd, rfl⟩⟩; (try first | exact ⟨rfl, _, World.drewN_drewN _ _ _⟩ | exact ⟨rfl, _, Eq.trans (World.drewN_drewN _ _ _) (congrArg (World.drewN _) (Nat.add_assoc _ _ _))⟩)))
    repeat (go_quiet (first | (go_at_call 41; (with_reducible refine (spec_doGood.calls k _ _ l0 true _ ?side1 ?side2 A3.out).mono ?_); (case side1 => repeat (first | exact (Kd.C_below HR0.out HB.out) | (with_reducible refine Kd.C_alloc ?_ _) | (with_reducible refine Kd.C_drewN ?_ _) | (with_reducible refine Kd.C_drew ?_))); (case side2 => exact HC0.out); rintro e w' ⟨rfl, ⟨nd, rfl⟩⟩; (try first | exact ⟨rfl, _, World.drewN_drewN _ _ _⟩ | exact ⟨rfl, _, Eq.trans (World.drewN_drewN _ _ _) (congrArg (World.drewN _) (Nat.add_assoc _ _ _))⟩)) | (go_at_call 42; (with_reducible refine (spec_doSum.calls k _ _ l0 t150 _ ?side1 ?side2 A5.out).mono ?_); (case side1 => repeat (first | exact (Kd.C_below HR0.out (by repeat (first | (with_reducible first | exact HB.out | apply below_alloc | apply pw_below_drewN | apply below_drew1) | exact HB.out))) | (with_reducible refine Kd.C_alloc ?_ _) | (with_reducible refine Kd.C_drewN ?_ _) | (with_reducible refine Kd.C_drew ?_))); (case side2 => exact HC0.out); rintro e w' ⟨rfl, ⟨nd, rfl⟩⟩; (try first | exact ⟨rfl, _, World.drewN_drewN _ _ _⟩ | exact ⟨rfl, _, Eq.trans (World.drewN_drewN _ _ _) (congrArg (World.drewN _) (Nat.add_assoc _ _ _))⟩))); try go_wp2_with (first | (go_at_call 41; (with_reducible refine (spec_doGood.calls k _ _ l0 true _ ?side1 ?side2 A3.out).mono ?_); (case side1 => repeat (first | exact (Kd.C_below HR0.out HB.out) | (with_reducible refine Kd.C_alloc ?_ _) | (with_reducible refine Kd.C_drewN ?_ _) | (with_reducible refine Kd.C_drew ?_))); (case side2 => exact HC0.out); rintro e w' ⟨rfl, ⟨nd, rfl⟩⟩; (try first | exact ⟨rfl, _, World.drewN_drewN _ _ _⟩ | exact ⟨rfl, _, Eq.trans (World.drewN_drewN _ _ _) (congrArg (World.drewN _) (Nat.add_assoc _ _ _))⟩)) | (go_at_call 42; (with_reducible refine (spec_doSum.calls k _ _ l0 t150 _ ?side1 ?side2 A5.out).mono ?_); (case side1 => repeat (first | exact (Kd.C_below HR0.out (by repeat (first | (with_reducible first | exact HB.out | apply below_alloc | apply pw_below_drewN | apply below_drew1) | exact HB.out))) | (with_reducible refine Kd.C_alloc ?_ _) | (with_reducible refine Kd.C_drewN ?_ _) | (with_reducible refine Kd.C_drew ?_))); (case side2 => exact HC0.out); rintro e w' ⟨rfl, ⟨nd, rfl⟩⟩; (try first | exact ⟨rfl, _, World.drewN_drewN _ _ _⟩ | exact ⟨rfl, _, Eq.trans (World.drewN_drewN _ _ _) (congrArg (World.drewN _) (Nat.add_assoc _ _ _))⟩))))
    go_meet
    case rel => exact ⟨_, (decide (t150 < 0)), (by first | rfl | (simp; done) | (simp [*]; done)), H', ⟨by first | omega | exact Nat.le_refl _⟩, ⟨by repeat (first | (with_reducible first | exact HB.out | apply below_alloc | apply pw_below_drewN | apply below_drew1) | exact HB.out)⟩⟩
  · replace c4 := Bool.eq_false_iff.mpr c4
    subst c4
    have H1 : (spec_PartsOf.j0 k l0 true) = some (r1, r2, r3) := by rw [if_neg (show ¬ (false = true) by decide)] at H; exact H
    clear H
    have H := H1
    clear H1
    have H' := Aside0.mk H
    clear H
    go_wp2_with (first | (go_at_call 41; (with_reducible refine (spec_doGood.calls k _ _ l0 false _ ?side1 ?side2 A3.out).mono ?_); (case side1 => repeat (first | exact (Kd.C_below HR0.out HB.out) | (with_reducible refine Kd.C_alloc ?_ _) | (with_reducible refine Kd.C_drewN ?_ _) | (with_reducible refine Kd.C_drew ?_))); (case side2 => exact HC0.out); rintro e w' ⟨rfl, ⟨nd, rfl⟩⟩; (try first | exact ⟨rfl, _, World.drewN_drewN _ _ _⟩ | exact ⟨rfl, _, Eq.trans (World.drewN_drewN _ _ _) (congrArg (World.drewN _) (Nat.add_assoc _ _ _))⟩)))
    repeat (go_quiet (first | (go_at_call 41; (with_reducible refine (spec_doGood.calls k _ _ l0 false _ ?side1 ?side2 A3.out).mono ?_); (case side1 => repeat (first | exact (Kd.C_below HR0.out HB.out) | (with_reducible refine Kd.C_alloc ?_ _) | (with_reducible refine Kd.C_drewN ?_ _) | (with_reducible refine Kd.C_drew ?_))); (case side2 => exact HC0.out); rintro e w' ⟨rfl, ⟨nd, rfl⟩⟩; (try first | exact ⟨rfl, _, World.drewN_drewN _ _ _⟩ | exact ⟨rfl, _, Eq.trans (World.drewN_drewN _ _ _) (congrArg (World.drewN _) (Nat.add_assoc _ _ _))⟩))); try go_wp2_with (first | (go_at_call 41; (with_reducible refine (spec_doGood.calls k _ _ l0 false _ ?side1 ?side2 A3.out).mono ?_); (case side1 => repeat (first | exact (Kd.C_below HR0.out HB.out) | (with_reducible refine Kd.C_alloc ?_ _) | (with_reducible refine Kd.C_drewN ?_ _) | (with_reducible refine Kd.C_drew ?_))); (case side2 => exact HC0.out); rintro e w' ⟨rfl, ⟨nd, rfl⟩⟩; (try first | exact ⟨rfl, _, World.drewN_drewN _ _ _⟩ | exact ⟨rfl, _, Eq.trans (World.drewN_drewN _ _ _) (congrArg (World.drewN _) (Nat.add_assoc _ _ _))⟩))))
    go_meet
    case rel => exact ⟨_, (true), (by first | rfl | (simp; done) | (simp [*]; done)), H', ⟨by first | omega | exact Nat.le_refl _⟩, ⟨by repeat (first | (with_reducible first | exact HB.out | apply below_alloc | apply pw_below_drewN | apply below_drew1) | exact HB.out)⟩⟩
 case rest =>
  clear HC2
  try clear p2
  try clear c4
  obtain ⟨kq, x23_1, rfl, HA, HJ1, HB⟩ := hcut
  cases kq with
  | zero => exact absurd HA.out (by simp [spec_PartsOf.j0])
  | succ kj1 =>
   have H := HA.out
   clear HA
   simp only [spec_PartsOf.j0] at H
   by_cases c6 : x23_1 = true
   · subst c6
     have H1 : (some (([] : List (List Int)), ([] : List Int), false)) = some (r1, r2, r3) := by rw [if_pos rfl] at H; exact H
     clear H
     have H := H1
     clear H1
     simp only [Option.some.injEq, Prod.mk.injEq] at H
     obtain ⟨rfl, rfl, rfl⟩ := H
     go_wp2
     repeat (go_quiet (fail); try go_wp2)
     go_ret3
     exact ⟨_, _, rfl, Kd.N_nil _ _ _ _ _, Kd.R_nil _ _ _ _ _, by repeat (first | (with_reducible first | exact HB.out | apply below_alloc | apply pw_below_drewN | apply below_drew1) | exact HB.out)⟩
   · replace c6 := Bool.eq_false_iff.mpr c6
     subst c6
     have H1 : ((spec_doEmpty.f kj1 (l0.length : Int)).bind fun t151 => (spec_PartsOf.l0 kj1 t151 l0 (l0.length : Int) 0)) = some (r1, r2, r3) := by rw [if_neg (show ¬ (false = true) by decide)] at H; exact H
     clear H
     have H := H1
     clear H1
     replace H := Option.bind_eq_some_iff.mp H
     obtain ⟨t151, A70, H⟩ := H
     replace H : (spec_PartsOf.l0 kj1 t151 l0 (l0.length : Int) 0) = some (r1, r2, r3) := H
     have A7 := Aside0.mk A70
     clear A70
     have H' := Aside0.mk H
     clear H
     go_wp2_with (first | (go_at_call 43; (with_reducible refine (spec_doEmpty.calls kj1 (l0.length : Int) t151 _ A7.out).mono ?_); rintro e w8 ⟨v152, rfl, ho0, hb⟩; have n0_ := Aside0.mk (Kd.S_lower ho0 (below_size (by repeat (first | (with_reducible first | exact HB.out | apply below_alloc | apply pw_below_drewN | apply below_drew1) | exact HB.out)))); have n1_ := Aside0.mk (below_step (by repeat (first | (with_reducible first | exact HB.out | apply below_alloc | apply pw_below_drewN | apply below_drew1) | exact HB.out)) hb); clear HB; have HO153 := n0_; have HB := n1_; clear n0_ n1_; (try clear hb); (try clear hb2); (try clear hk); (try clear hi); (try clear ho0)))
     repeat (go_quiet (first | (go_at_call 43; (with_reducible refine (spec_doEmpty.calls kj1 (l0.length : Int) t151 _ A7.out).mono ?_); rintro e w8 ⟨v152, rfl, ho0, hb⟩; have n0_ := Aside0.mk (Kd.S_lower ho0 (below_size (by repeat (first | (with_reducible first | exact HB.out | apply below_alloc | apply pw_below_drewN | apply below_drew1) | exact HB.out)))); have n1_ := Aside0.mk (below_step (by repeat (first | (with_reducible first | exact HB.out | apply below_alloc | apply pw_below_drewN | apply below_drew1) | exact HB.out)) hb); clear HB; have HO153 := n0_; have HB := n1_; clear n0_ n1_; (try clear hb); (try clear hb2); (try clear hk); (try clear hi); (try clear ho0))); try go_wp2_with (first | (go_at_call 43; (with_reducible refine (spec_doEmpty.calls kj1 (l0.length : Int) t151 _ A7.out).mono ?_); rintro e w8 ⟨v152, rfl, ho0, hb⟩; have n0_ := Aside0.mk (Kd.S_lower ho0 (below_size (by repeat (first | (with_reducible first | exact HB.out | apply below_alloc | apply pw_below_drewN | apply below_drew1) | exact HB.out)))); have n1_ := Aside0.mk (below_step (by repeat (first | (with_reducible first | exact HB.out | apply below_alloc | apply pw_below_drewN | apply below_drew1) | exact HB.out)) hb); clear HB; have HO153 := n0_; have HB := n1_; clear n0_ n1_; (try clear hb); (try clear hb2); (try clear hk); (try clear hi); (try clear ho0))))
     go_loopg [29] kj1 (fun kq v29 w' => ∃ (x5_2 : List (List Int)) (x29_2 : Int), v29 = .int .i64 x29_2 ∧ Aside0 (spec_PartsOf.l0 kq x5_2 l0 (l0.length : Int) x29_2 = some (r1, r2, r3)) ∧ Aside0 (kq ≤ kj1) ∧ Aside0 (Kd.S (Kd.slice 3 (Kd.int .i64)) 24 w' w.heap.size (fun _ => True) v152 x5_2) ∧ Aside0 (Below w.heap.size w w'))
     case atStart => exact ⟨(t151), (0), (by first | rfl | (simp; done) | (simp [*]; done)), H', ⟨Nat.le_refl _⟩, ⟨by (with_reducible repeat (first | apply Kd.S_alloc | apply Kd.S_drewN | apply Kd.S_drew)); exact HO153.out⟩, ⟨by repeat (first | (with_reducible first | exact HB.out | apply below_alloc | apply pw_below_drewN | apply below_drew1) | exact HB.out)⟩⟩
     case round =>
      clear H'
      try clear p2
      try clear c4
      try clear c6
      try clear c8
      try clear p2
      obtain ⟨x5_2, x29_2, rfl, HA, HK2, HO_5, HB⟩ := hrel
      cases gk with
      | zero => exact absurd HA.out (by simp [spec_PartsOf.l0])
      | succ k2 =>
       have H := HA.out
       clear HA
       simp only [spec_PartsOf.l0] at H
       by_cases c9 : x29_2 < (l0.length : Int)
       · rw [if_pos c9] at H
         have c9b0 : decide (x29_2 < (l0.length : Int)) = true := decide_eq_true c9
         clear c9
         by_cases c10 : 0 ≤ x29_2
         · rw [if_pos c10] at H
           have c10b0 : decide (0 ≤ x29_2) = true := decide_eq_true c10
           clear c10
           by_cases c11 : x29_2 < (l0.length : Int)
           · rw [if_pos c11] at H
             have c11b0 : decide (x29_2 < (l0.length : Int)) = true := decide_eq_true c11
             clear c11
             replace H := Option.bind_eq_some_iff.mp H
             obtain ⟨t155, A120, H⟩ := H
             replace H : (if x29_2 < (x5_2.length : Int) then (spec_PartsOf.l0 k2 (x5_2.set (x29_2 : Int).toNat t155) l0 (l0.length : Int) (wrap64 (x29_2 + 1))) else (none)) = some (r1, r2, r3) := H
             have A12 := Aside0.mk A120
             clear A120
             by_cases c13 : x29_2 < (x5_2.length : Int)
             · rw [if_pos c13] at H
               have c13b0 : decide (x29_2 < (x5_2.length : Int)) = true := decide_eq_true c13
               clear c13
               obtain ⟨y158, hy158⟩ : ∃ y_ : List (List Int), y_ = (x5_2.set (x29_2 : Int).toNat t155) := ⟨_, rfl⟩
               replace H : (spec_PartsOf.l0 k2 y158 l0 (l0.length : Int) (wrap64 (x29_2 + 1))) = some (r1, r2, r3) := by first | (rw [hy158]; with_reducible exact H) | (have H2_ := (Option.bind_some _ _).symm.trans H; rw [hy158]; with_reducible exact H2_) | (have H2_ := (Option.bind_some _ _).symm.trans H; with_reducible exact H2_) | with_reducible exact H | (rw [hy158]; exact H) | exact H
               have Ny158 := Aside0.mk hy158
               clear hy158
               have H' := Aside0.mk H
               clear H
               have p154 : 0 ≤ (x29_2 : Int) := of_decide_eq_true (by first | (with_reducible assumption) | assumption)
               have q154 : x29_2 < (l0.length : Int) := of_decide_eq_true (by first | (with_reducible assumption) | assumption)
               obtain ⟨ad154, A154_0, c154_0, e154, hx154_0, hl154_0, hi154_0⟩ := at_L1 HR0.out x29_2 p154 q154
               cases e154
               replace hx154_0 := (HB.out.cell (World.block_lt_of_cell? w _ hx154_0)).trans hx154_0
               have HR154_0 := Aside0.mk hi154_0
               have HC154_0 := Aside0.mk hl154_0
               clear hi154_0 hl154_0
               replace p154 := eq_true p154
               replace q154 := eq_true q154
               go_wp2_with (first | (go_at_call 44; (with_reducible refine (spec_l1Own.calls _ _ (rd_L1 l0 x29_2) t155 _ ?side1 ?side2 A12.out).mono ?_); (case side1 => repeat (first | exact (Kd.C_below HR154_0.out HB.out) | (with_reducible refine Kd.C_alloc ?_ _) | (with_reducible refine Kd.C_drewN ?_ _) | (with_reducible refine Kd.C_drew ?_))); (case side2 => exact HC154_0.out); rintro e w15 ⟨v156, rfl, ho0, hb⟩; have n0_ := Aside0.mk (Kd.S_elder' (by (with_reducible repeat (first | apply Kd.S_alloc | apply Kd.S_drewN | apply Kd.S_drew)); exact HO_5.out) (Kd.R_base ho0) hb); have n1_ := Aside0.mk (Kd.R_lower ho0 (below_size (by repeat (first | (with_reducible first | exact HB.out | apply below_alloc | apply pw_below_drewN | apply below_drew1) | exact HB.out)))); have n2_ := Aside0.mk (below_step (by repeat (first | (with_reducible first | exact HB.out | apply below_alloc | apply pw_below_drewN | apply below_drew1) | exact HB.out)) hb); clear HO_5; clear HB; have HO_5 := n0_; have HO157 := n1_; have HB := n2_; clear n0_ n1_ n2_; (try clear hb); (try clear hb2); (try clear hk); (try clear hi); (try clear ho0); have p14 : 0 ≤ (x29_2 : Int) := of_decide_eq_true (by first | (with_reducible assumption) | assumption); have q14 : (x29_2 : Int) < ((x5_2.length : Int) : Int) := of_decide_eq_true (by first | (with_reducible assumption) | assumption); obtain ⟨go14, co14, eo14, gb14, gl14, cl14, HG14⟩ := Kd.S_form HO_5.out (by omega); (first | cases eo14 | (injection eo14 with ea_ en_ ec_; (first | subst ea_ | (injection ea_ with ea_; subst ea_)); subst ec_; clear en_)); have GB14 := Aside0.mk gb14; have GG14 := Aside0.mk HG14; clear gb14 gl14 HG14; obtain ⟨_, ce14, hcl14, hM14, hcc14, hfr14, _, _⟩ := Kd.S_elem HO_5.out [] (x29_2 : Int) p14 q14; obtain ⟨ve14_0, rfl, ge14_0⟩ := hM14; have hx14_0 := hcc14 0 _ rfl; have hf14_0 := hfr14 0; (try simp only [show ((Kd.slice 3 (Kd.int .i64))).sz = 1 from rfl, Nat.mul_one, Nat.add_zero] at hx14_0); (try simp only [show ((Kd.slice 3 (Kd.int .i64))).sz = 1 from rfl, Nat.mul_one, Nat.add_zero] at hf14_0); (try clear hcl14); (try clear hcc14); (try clear hfr14); (try clear hM14); replace p14 := eq_true p14; replace q14 := eq_true q14; have n_ := Aside0.mk (Kd.S_mono (ok' := (fun k_ => some k_ ≠ (v156 : Value).ownBlock)) HO_5.out (fun k_ hk => hk.2)); clear HO_5; have HO_5 := n_; clear n_; have HX16 := Aside0.mk (show Kd.S (Kd.slice 3 (Kd.int .i64)) 24 w15 w.heap.size (fun k_ => ((fun _ => True)) k_ ∧ ¬ ((fun k_ => some k_ = (v156 : Value).ownBlock)) k_) (.slice (some ⟨go14, 0, none⟩) x5_2.length co14) x5_2 from (by (with_reducible repeat (first | apply Kd.S_alloc | apply Kd.S_drewN | apply Kd.S_drew)); exact Kd.S_mono HO_5.out (fun k_ hk => ⟨trivial, fun e_ => hk e_⟩))); obtain ⟨oki16, ce16, hcl16, hM16, hcc16, hfr16, hoki16, hH16⟩ := Kd.S_elem HX16.out [] (x29_2 : Int) (of_decide_eq_true (by first | (with_reducible assumption) | assumption)) (by have h_ : (x29_2 : Int) < ((x5_2.length : Int) : Int) := of_decide_eq_true (by first | (with_reducible assumption) | assumption); first | exact h_ | (have e_ := (Kd.S_reads' HO_5.out).1; omega) | simpa using h_); obtain ⟨ve16_0, rfl, ge16_0⟩ := hM16; have HP16 := Kd.S_seg hH16 (of_decide_eq_true (by first | (with_reducible assumption) | assumption)) (by have h_ : (x29_2 : Int) < ((x5_2.length : Int) : Int) := of_decide_eq_true (by first | (with_reducible assumption) | assumption); first | exact h_ | (have e_ := (Kd.S_reads' HO_5.out).1; omega) | simpa using h_) (seg := [v156]) (j := 0) (show 1 ≤ 1 from by decide) (x' := t155) (Kd.M_row (Kd.R_mono (Kd.R_tight rfl (Kd.R_mono (ok' := fun k_ => ((fun _ => True)) k_ ∧ k_ ≠ go14) (Kd.R_apart' (HO157.out) (Kd.S_typed HO_5.out) (by decide)) (fun k_ hk => ⟨trivial, fun e_ => (hk.2) (by rw [e_]; rfl)⟩))) (fun _ h_ => Or.inr (h_)))) (fun _ hk => hk) (fun k_ hk_ => ((Kd.R_mono (ok' := fun k_ => ((fun _ => True)) k_ ∧ k_ ≠ go14) (Kd.R_apart' (HO157.out) (Kd.S_typed HO_5.out) (by decide)) (fun k_ hk => ⟨trivial, fun e_ => (hk.2) (by rw [e_]; rfl)⟩))).1 k_ hk_.symm); have hx16_0 := hcc16 0 _ rfl; (try simp only [show ((Kd.slice 3 (Kd.int .i64))).sz = 1 from rfl, Nat.mul_one, Nat.add_zero] at hx16_0); have hf16_0 := hfr16 0; (try simp only [show ((Kd.slice 3 (Kd.int .i64))).sz = 1 from rfl, Nat.mul_one, Nat.add_zero] at hf16_0); (try clear hcl16); (try clear hcc16); (try clear hfr16); (try clear hM16); (try clear hoki16); (try clear hH16); (try simp only [show ((Kd.slice 3 (Kd.int .i64))).sz = 1 from rfl, Nat.mul_one, Nat.add_zero] at HP16)) | ((with_reducible refine gate_store (t := 24) (p := 38) rfl ?_); (try (rw [drewN_self w15]; generalize hq_ : World.drewN w15 _ = w15; have n0_ := Aside0.mk (Kd.S_at hq_ HO_5.out); have n1_ := Aside0.mk (below_at hq_ HB.out); clear hq_ HO_5 HB; have HO_5 := n0_; have HB := n1_; clear n0_ n1_; (try (have n_ := Aside0.mk (Kd.S_mono (ok' := (fun k_ => some k_ ≠ (v156 : Value).ownBlock)) HO_5.out (fun k_ hk => hk.2)); clear HO_5; have HO_5 := n_; clear n_)); (try (have HX16 := Aside0.mk (show Kd.S (Kd.slice 3 (Kd.int .i64)) 24 w15 w.heap.size (fun k_ => ((fun _ => True)) k_ ∧ ¬ ((fun k_ => some k_ = (v156 : Value).ownBlock)) k_) (.slice (some ⟨go14, 0, none⟩) x5_2.length co14) x5_2 from (by (with_reducible repeat (first | apply Kd.S_alloc | apply Kd.S_drewN | apply Kd.S_drew)); exact Kd.S_mono HO_5.out (fun k_ hk => ⟨trivial, fun e_ => hk e_⟩))))); (try (obtain ⟨oki16, ce16, hcl16, hM16, hcc16, hfr16, hoki16, hH16⟩ := Kd.S_elem HX16.out [] (x29_2 : Int) (of_decide_eq_true (by first | (with_reducible assumption) | assumption)) (by have h_ : (x29_2 : Int) < ((x5_2.length : Int) : Int) := of_decide_eq_true (by first | (with_reducible assumption) | assumption); first | exact h_ | (have e_ := (Kd.S_reads' HO_5.out).1; omega) | simpa using h_))); (try (obtain ⟨ve16_0, rfl, ge16_0⟩ := hM16)); (try (have HP16 := Kd.S_seg hH16 (of_decide_eq_true (by first | (with_reducible assumption) | assumption)) (by have h_ : (x29_2 : Int) < ((x5_2.length : Int) : Int) := of_decide_eq_true (by first | (with_reducible assumption) | assumption); first | exact h_ | (have e_ := (Kd.S_reads' HO_5.out).1; omega) | simpa using h_) (seg := [v156]) (j := 0) (show 1 ≤ 1 from by decide) (x' := t155) (Kd.M_row (Kd.R_mono (Kd.R_tight rfl (Kd.R_mono (ok' := fun k_ => ((fun _ => True)) k_ ∧ k_ ≠ go14) (Kd.R_apart' (HO157.out) (Kd.S_typed HO_5.out) (by decide)) (fun k_ hk => ⟨trivial, fun e_ => (hk.2) (by rw [e_]; rfl)⟩))) (fun _ h_ => Or.inr (h_)))) (fun _ hk => hk) (fun k_ hk_ => ((Kd.R_mono (ok' := fun k_ => ((fun _ => True)) k_ ∧ k_ ≠ go14) (Kd.R_apart' (HO157.out) (Kd.S_typed HO_5.out) (by decide)) (fun k_ hk => ⟨trivial, fun e_ => (hk.2) (by rw [e_]; rfl)⟩))).1 k_ hk_.symm))); (try (have hx16_0 := hcc16 0 _ rfl)); (try (try simp only [show ((Kd.slice 3 (Kd.int .i64))).sz = 1 from rfl, Nat.mul_one, Nat.add_zero] at hx16_0)); (try (have hf16_0 := hfr16 0)); (try (try simp only [show ((Kd.slice 3 (Kd.int .i64))).sz = 1 from rfl, Nat.mul_one, Nat.add_zero] at hf16_0)); (try ((try clear hcl16); (try clear hcc16); (try clear hfr16); (try clear hM16); (try clear hoki16); (try clear hH16))); (try (try simp only [show ((Kd.slice 3 (Kd.int .i64))).sz = 1 from rfl, Nat.mul_one, Nat.add_zero] at HP16)))); refine store_event (t := 24) (p := 38) (v := ?vo_w17) (w1 := (w15.setCell ⟨go14, (x29_2 : Int).toNat, none⟩ (v156))) ?hg ?ho ?hn ?hr ?_; (case ho => rfl); (case hg => rfl); (case hn => rfl); (case hr => first | (go_simp; done) | (go_simp; rfl; done) | (obtain ⟨_, _, e_⟩ := Kd.R_slice HO157.out; subst e_; first | (go_simp; done) | (go_simp; rfl))); intro w17 hw; have hg : w15.grownBy w17 (some go14) := (by rw [hw]; exact HP16.2); have hp_ : Kd.S (Kd.slice 3 (Kd.int .i64)) 24 w17 w.heap.size (fun _ => True) (.slice (some ⟨go14, 0, none⟩) x5_2.length co14) y158 := (by rw [hw, Ny158.out]; exact HP16.1); clear HP16; have n0_ := Aside0.mk (hp_); have n1_ := Aside0.mk ((by rw [hw]; exact below_set (HB.out) GB14.out : Below w.heap.size w w17)); clear HO_5; clear HB; clear HO157; have HO_5 := n0_; have HB := n1_; clear n0_ n1_; clear hg hw hp_))
               repeat (go_quiet (first | (go_at_call 44; (with_reducible refine (spec_l1Own.calls _ _ (rd_L1 l0 x29_2) t155 _ ?side1 ?side2 A12.out).mono ?_); (case side1 => repeat (first | exact (Kd.C_below HR154_0.out HB.out) | (with_reducible refine Kd.C_alloc ?_ _) | (with_reducible refine Kd.C_drewN ?_ _) | (with_reducible refine Kd.C_drew ?_))); (case side2 => exact HC154_0.out); rintro e w15 ⟨v156, rfl, ho0, hb⟩; have n0_ := Aside0.mk (Kd.S_elder' (by (with_reducible repeat (first | apply Kd.S_alloc | apply Kd.S_drewN | apply Kd.S_drew)); exact HO_5.out) (Kd.R_base ho0) hb); have n1_ := Aside0.mk (Kd.R_lower ho0 (below_size (by repeat (first | (with_reducible first | exact HB.out | apply below_alloc | apply pw_below_drewN | apply below_drew1) | exact HB.out)))); have n2_ := Aside0.mk (below_step (by repeat (first | (with_reducible first | exact HB.out | apply below_alloc | apply pw_below_drewN | apply below_drew1) | exact HB.out)) hb); clear HO_5; clear HB; have HO_5 := n0_; have HO157 := n1_; have HB := n2_; clear n0_ n1_ n2_; (try clear hb); (try clear hb2); (try clear hk); (try clear hi); (try clear ho0); have p14 : 0 ≤ (x29_2 : Int) := of_decide_eq_true (by first | (with_reducible assumption) | assumption); have q14 : (x29_2 : Int) < ((x5_2.length : Int) : Int) := of_decide_eq_true (by first | (with_reducible assumption) | assumption); obtain ⟨go14, co14, eo14, gb14, gl14, cl14, HG14⟩ := Kd.S_form HO_5.out (by omega); (first | cases eo14 | (injection eo14 with ea_ en_ ec_; (first | subst ea_ | (injection ea_ with ea_; subst ea_)); subst ec_; clear en_)); have GB14 := Aside0.mk gb14; have GG14 := Aside0.mk HG14; clear gb14 gl14 HG14; obtain ⟨_, ce14, hcl14, hM14, hcc14, hfr14, _, _⟩ := Kd.S_elem HO_5.out [] (x29_2 : Int) p14 q14; obtain ⟨ve14_0, rfl, ge14_0⟩ := hM14; have hx14_0 := hcc14 0 _ rfl; have hf14_0 := hfr14 0; (try simp only [show ((Kd.slice 3 (Kd.int .i64))).sz = 1 from rfl, Nat.mul_one, Nat.add_zero] at hx14_0); (try simp only [show ((Kd.slice 3 (Kd.int .i64))).sz = 1 from rfl, Nat.mul_one, Nat.add_zero] at hf14_0); (try clear hcl14); (try clear hcc14); (try clear hfr14); (try clear hM14); replace p14 := eq_true p14; replace q14 := eq_true q14; have n_ := Aside0.mk (Kd.S_mono (ok' := (fun k_ => some k_ ≠ (v156 : Value).ownBlock)) HO_5.out (fun k_ hk => hk.2)); clear HO_5; have HO_5 := n_; clear n_; have HX16 := Aside0.mk (show Kd.S (Kd.slice 3 (Kd.int .i64)) 24 w15 w.heap.size (fun k_ => ((fun _ => True)) k_ ∧ ¬ ((fun k_ => some k_ = (v156 : Value).ownBlock)) k_) (.slice (some ⟨go14, 0, none⟩) x5_2.length co14) x5_2 from (by (with_reducible repeat (first | apply Kd.S_alloc | apply Kd.S_drewN | apply Kd.S_drew)); exact Kd.S_mono HO_5.out (fun k_ hk => ⟨trivial, fun e_ => hk e_⟩))); obtain ⟨oki16, ce16, hcl16, hM16, hcc16, hfr16, hoki16, hH16⟩ := Kd.S_elem HX16.out [] (x29_2 : Int) (of_decide_eq_true (by first | (with_reducible assumption) | assumption)) (by have h_ : (x29_2 : Int) < ((x5_2.length : Int) : Int) := of_decide_eq_true (by first | (with_reducible assumption) | assumption); first | exact h_ | (have e_ := (Kd.S_reads' HO_5.out).1; omega) | simpa using h_); obtain ⟨ve16_0, rfl, ge16_0⟩ := hM16; have HP16 := Kd.S_seg hH16 (of_decide_eq_true (by first | (with_reducible assumption) | assumption)) (by have h_ : (x29_2 : Int) < ((x5_2.length : Int) : Int) := of_decide_eq_true (by first | (with_reducible assumption) | assumption); first | exact h_ | (have e_ := (Kd.S_reads' HO_5.out).1; omega) | simpa using h_) (seg := [v156]) (j := 0) (show 1 ≤ 1 from by decide) (x' := t155) (Kd.M_row (Kd.R_mono (Kd.R_tight rfl (Kd.R_mono (ok' := fun k_ => ((fun _ => True)) k_ ∧ k_ ≠ go14) (Kd.R_apart' (HO157.out) (Kd.S_typed HO_5.out) (by decide)) (fun k_ hk => ⟨trivial, fun e_ => (hk.2) (by rw [e_]; rfl)⟩))) (fun _ h_ => Or.inr (h_)))) (fun _ hk => hk) (fun k_ hk_ => ((Kd.R_mono (ok' := fun k_ => ((fun _ => True)) k_ ∧ k_ ≠ go14) (Kd.R_apart' (HO157.out) (Kd.S_typed HO_5.out) (by decide)) (fun k_ hk => ⟨trivial, fun e_ => (hk.2) (by rw [e_]; rfl)⟩))).1 k_ hk_.symm); have hx16_0 := hcc16 0 _ rfl; (try simp only [show ((Kd.slice 3 (Kd.int .i64))).sz = 1 from rfl, Nat.mul_one, Nat.add_zero] at hx16_0); have hf16_0 := hfr16 0; (try simp only [show ((Kd.slice 3 (Kd.int .i64))).sz = 1 from rfl, Nat.mul_one, Nat.add_zero] at hf16_0); (try clear hcl16); (try clear hcc16); (try clear hfr16); (try clear hM16); (try clear hoki16); (try clear hH16); (try simp only [show ((Kd.slice 3 (Kd.int .i64))).sz = 1 from rfl, Nat.mul_one, Nat.add_zero] at HP16)) | ((with_reducible refine gate_store (t := 24) (p := 38) rfl ?_); (try (rw [drewN_self w15]; generalize hq_ : World.drewN w15 _ = w15; have n0_ := Aside0.mk (Kd.S_at hq_ HO_5.out); have n1_ := Aside0.mk (below_at hq_ HB.out); clear hq_ HO_5 HB; have HO_5 := n0_; have HB := n1_; clear n0_ n1_; (try (have n_ := Aside0.mk (Kd.S_mono (ok' := (fun k_ => some k_ ≠ (v156 : Value).ownBlock)) HO_5.out (fun k_ hk => hk.2)); clear HO_5; have HO_5 := n_; clear n_)); (try (have HX16 := Aside0.mk (show Kd.S (Kd.slice 3 (Kd.int .i64)) 24 w15 w.heap.size (fun k_ => ((fun _ => True)) k_ ∧ ¬ ((fun k_ => some k_ = (v156 : Value).ownBlock)) k_) (.slice (some ⟨go14, 0, none⟩) x5_2.length co14) x5_2 from (by (with_reducible repeat (first | apply Kd.S_alloc | apply Kd.S_drewN | apply Kd.S_drew)); exact Kd.S_mono HO_5.out (fun k_ hk => ⟨trivial, fun e_ => hk e_⟩))))); (try (obtain ⟨oki16, ce16, hcl16, hM16, hcc16, hfr16, hoki16, hH16⟩ := Kd.S_elem HX16.out [] (x29_2 : Int) (of_decide_eq_true (by first | (with_reducible assumption) | assumption)) (by have h_ : (x29_2 : Int) < ((x5_2.length : Int) : Int) := of_decide_eq_true (by first | (with_reducible assumption) | assumption); first | exact h_ | (have e_ := (Kd.S_reads' HO_5.out).1; omega) | simpa using h_))); (try (obtain ⟨ve16_0, rfl, ge16_0⟩ := hM16)); (try (have HP16 := Kd.S_seg hH16 (of_decide_eq_true (by first | (with_reducible assumption) | assumption)) (by have h_ : (x29_2 : Int) < ((x5_2.length : Int) : Int) := of_decide_eq_true (by first | (with_reducible assumption) | assumption); first | exact h_ | (have e_ := (Kd.S_reads' HO_5.out).1; omega) | simpa using h_) (seg := [v156]) (j := 0) (show 1 ≤ 1 from by decide) (x' := t155) (Kd.M_row (Kd.R_mono (Kd.R_tight rfl (Kd.R_mono (ok' := fun k_ => ((fun _ => True)) k_ ∧ k_ ≠ go14) (Kd.R_apart' (HO157.out) (Kd.S_typed HO_5.out) (by decide)) (fun k_ hk => ⟨trivial, fun e_ => (hk.2) (by rw [e_]; rfl)⟩))) (fun _ h_ => Or.inr (h_)))) (fun _ hk => hk) (fun k_ hk_ => ((Kd.R_mono (ok' := fun k_ => ((fun _ => True)) k_ ∧ k_ ≠ go14) (Kd.R_apart' (HO157.out) (Kd.S_typed HO_5.out) (by decide)) (fun k_ hk => ⟨trivial, fun e_ => (hk.2) (by rw [e_]; rfl)⟩))).1 k_ hk_.symm))); (try (have hx16_0 := hcc16 0 _ rfl)); (try (try simp only [show ((Kd.slice 3 (Kd.int .i64))).sz = 1 from rfl, Nat.mul_one, Nat.add_zero] at hx16_0)); (try (have hf16_0 := hfr16 0)); (try (try simp only [show ((Kd.slice 3 (Kd.int .i64))).sz = 1 from rfl, Nat.mul_one, Nat.add_zero] at hf16_0)); (try ((try clear hcl16); (try clear hcc16); (try clear hfr16); (try clear hM16); (try clear hoki16); (try clear hH16))); (try (try simp only [show ((Kd.slice 3 (Kd.int .i64))).sz = 1 from rfl, Nat.mul_one, Nat.add_zero] at HP16)))); refine store_event (t := 24) (p := 38) (v := ?vo_w17) (w1 := (w15.setCell ⟨go14, (x29_2 : Int).toNat, none⟩ (v156))) ?hg ?ho ?hn ?hr ?_; (case ho => rfl); (case hg => rfl); (case hn => rfl); (case hr => first | (go_simp; done) | (go_simp; rfl; done) | (obtain ⟨_, _, e_⟩ := Kd.R_slice HO157.out; subst e_; first | (go_simp; done) | (go_simp; rfl))); intro w17 hw; have hg : w15.grownBy w17 (some go14) := (by rw [hw]; exact HP16.2); have hp_ : Kd.S (Kd.slice 3 (Kd.int .i64)) 24 w17 w.heap.size (fun _ => True) (.slice (some ⟨go14, 0, none⟩) x5_2.length co14) y158 := (by rw [hw, Ny158.out]; exact HP16.1); clear HP16; have n0_ := Aside0.mk (hp_); have n1_ := Aside0.mk ((by rw [hw]; exact below_set (HB.out) GB14.out : Below w.heap.size w w17)); clear HO_5; clear HB; clear HO157; have HO_5 := n0_; have HB := n1_; clear n0_ n1_; clear hg hw hp_)); try go_wp2_with (first | (go_at_call 44; (with_reducible refine (spec_l1Own.calls _ _ (rd_L1 l0 x29_2) t155 _ ?side1 ?side2 A12.out).mono ?_); (case side1 => repeat (first | exact (Kd.C_below HR154_0.out HB.out) | (with_reducible refine Kd.C_alloc ?_ _) | (with_reducible refine Kd.C_drewN ?_ _) | (with_reducible refine Kd.C_drew ?_))); (case side2 => exact HC154_0.out); rintro e w15 ⟨v156, rfl, ho0, hb⟩; have n0_ := Aside0.mk (Kd.S_elder' (by (with_reducible repeat (first | apply Kd.S_alloc | apply Kd.S_drewN | apply Kd.S_drew)); exact HO_5.out) (Kd.R_base ho0) hb); have n1_ := Aside0.mk (Kd.R_lower ho0 (below_size (by repeat (first | (with_reducible first | exact HB.out | apply below_alloc | apply pw_below_drewN | apply below_drew1) | exact HB.out)))); have n2_ := Aside0.mk (below_step (by repeat (first | (with_reducible first | exact HB.out | apply below_alloc | apply pw_below_drewN | apply below_drew1) | exact HB.out)) hb); clear HO_5; clear HB; have HO_5 := n0_; have HO157 := n1_; have HB := n2_; clear n0_ n1_ n2_; (try clear hb); (try clear hb2); (try clear hk); (try clear hi); (try clear ho0); have p14 : 0 ≤ (x29_2 : Int) := of_decide_eq_true (by first | (with_reducible assumption) | assumption); have q14 : (x29_2 : Int) < ((x5_2.length : Int) : Int) := of_decide_eq_true (by first | (with_reducible assumption) | assumption); obtain ⟨go14, co14, eo14, gb14, gl14, cl14, HG14⟩ := Kd.S_form HO_5.out (by omega); (first | cases eo14 | (injection eo14 with ea_ en_ ec_; (first | subst ea_ | (injection ea_ with ea_; subst ea_)); subst ec_; clear en_)); have GB14 := Aside0.mk gb14; have GG14 := Aside0.mk HG14; clear gb14 gl14 HG14; obtain ⟨_, ce14, hcl14, hM14, hcc14, hfr14, _, _⟩ := Kd.S_elem HO_5.out [] (x29_2 : Int) p14 q14; obtain ⟨ve14_0, rfl, ge14_0⟩ := hM14; have hx14_0 := hcc14 0 _ rfl; have hf14_0 := hfr14 0; (try simp only [show ((Kd.slice 3 (Kd.int .i64))).sz = 1 from rfl, Nat.mul_one, Nat.add_zero] at hx14_0); (try simp only [show ((Kd.slice 3 (Kd.int .i64))).sz = 1 from rfl, Nat.mul_one, Nat.add_zero] at hf14_0); (try clear hcl14); (try clear hcc14); (try clear hfr14); (try clear hM14); replace p14 := eq_true p14; replace q14 := eq_true q14; have n_ := Aside0.mk (Kd.S_mono (ok' := (fun k_ => some k_ ≠ (v156 : Value).ownBlock)) HO_5.out (fun k_ hk => hk.2)); clear HO_5; have HO_5 := n_; clear n_; have HX16 := Aside0.mk (show Kd.S (Kd.slice 3 (Kd.int .i64)) 24 w15 w.heap.size (fun k_ => ((fun _ => True)) k_ ∧ ¬ ((fun k_ => some k_ = (v156 : Value).ownBlock)) k_) (.slice (some ⟨go14, 0, none⟩) x5_2.length co14) x5_2 from (by (with_reducible repeat (first | apply Kd.S_alloc | apply Kd.S_drewN | apply Kd.S_drew)); exact Kd.S_mono HO_5.out (fun k_ hk => ⟨trivial, fun e_ => hk e_⟩))); obtain ⟨oki16, ce16, hcl16, hM16, hcc16, hfr16, hoki16, hH16⟩ := Kd.S_elem HX16.out [] (x29_2 : Int) (of_decide_eq_true (by first | (with_reducible assumption) | assumption)) (by have h_ : (x29_2 : Int) < ((x5_2.length : Int) : Int) := of_decide_eq_true (by first | (with_reducible assumption) | assumption); first | exact h_ | (have e_ := (Kd.S_reads' HO_5.out).1; omega) | simpa using h_); obtain ⟨ve16_0, rfl, ge16_0⟩ := hM16; have HP16 := Kd.S_seg hH16 (of_decide_eq_true (by first | (with_reducible assumption) | assumption)) (by have h_ : (x29_2 : Int) < ((x5_2.length : Int) : Int) := of_decide_eq_true (by first | (with_reducible assumption) | assumption); first | exact h_ | (have e_ := (Kd.S_reads' HO_5.out).1; omega) | simpa using h_) (seg := [v156]) (j := 0) (show 1 ≤ 1 from by decide) (x' := t155) (Kd.M_row (Kd.R_mono (Kd.R_tight rfl (Kd.R_mono (ok' := fun k_ => ((fun _ => True)) k_ ∧ k_ ≠ go14) (Kd.R_apart' (HO157.out) (Kd.S_typed HO_5.out) (by decide)) (fun k_ hk => ⟨trivial, fun e_ => (hk.2) (by rw [e_]; rfl)⟩))) (fun _ h_ => Or.inr (h_)))) (fun _ hk => hk) (fun k_ hk_ => ((Kd.R_mono (ok' := fun k_ => ((fun _ => True)) k_ ∧ k_ ≠ go14) (Kd.R_apart' (HO157.out) (Kd.S_typed HO_5.out) (by decide)) (fun k_ hk => ⟨trivial, fun e_ => (hk.2) (by rw [e_]; rfl)⟩))).1 k_ hk_.symm); have hx16_0 := hcc16 0 _ rfl; (try simp only [show ((Kd.slice 3 (Kd.int .i64))).sz = 1 from rfl, Nat.mul_one, Nat.add_zero] at hx16_0); have hf16_0 := hfr16 0; (try simp only [show ((Kd.slice 3 (Kd.int .i64))).sz = 1 from rfl, Nat.mul_one, Nat.add_zero] at hf16_0); (try clear hcl16); (try clear hcc16); (try clear hfr16); (try clear hM16); (try clear hoki16); (try clear hH16); (try simp only [show ((Kd.slice 3 (Kd.int .i64))).sz = 1 from rfl, Nat.mul_one, Nat.add_zero] at HP16)) | ((with_reducible refine gate_store (t := 24) (p := 38) rfl ?_); (try (rw [drewN_self w15]; generalize hq_ : World.drewN w15 _ = w15; have n0_ := Aside0.mk (Kd.S_at hq_ HO_5.out); have n1_ := Aside0.mk (below_at hq_ HB.out); clear hq_ HO_5 HB; have HO_5 := n0_; have HB := n1_; clear n0_ n1_; (try (have n_ := Aside0.mk (Kd.S_mono (ok' := (fun k_ => some k_ ≠ (v156 : Value).ownBlock)) HO_5.out (fun k_ hk => hk.2)); clear HO_5; have HO_5 := n_; clear n_)); (try (have HX16 := Aside0.mk (show Kd.S (Kd.slice 3 (Kd.int .i64)) 24 w15 w.heap.size (fun k_ => ((fun _ => True)) k_ ∧ ¬ ((fun k_ => some k_ = (v156 : Value).ownBlock)) k_) (.slice (some ⟨go14, 0, none⟩) x5_2.length co14) x5_2 from (by (with_reducible repeat (first | apply Kd.S_alloc | apply Kd.S_drewN | apply Kd.S_drew)); exact Kd.S_mono HO_5.out (fun k_ hk => ⟨trivial, fun e_ => hk e_⟩))))); (try (obtain ⟨oki16, ce16, hcl16, hM16, hcc16, hfr16, hoki16, hH16⟩ := Kd.S_elem HX16.out [] (x29_2 : Int) (of_decide_eq_true (by first | (with_reducible assumption) | assumption)) (by have h_ : (x29_2 : Int) < ((x5_2.length : Int) : Int) := of_decide_eq_true (by first | (with_reducible assumption) | assumption); first | exact h_ | (have e_ := (Kd.S_reads' HO_5.out).1; omega) | simpa using h_))); (try (obtain ⟨ve16_0, rfl, ge16_0⟩ := hM16)); (try (have HP16 := Kd.S_seg hH16 (of_decide_eq_true (by first | (with_reducible assumption) | assumption)) (by have h_ : (x29_2 : Int) < ((x5_2.length : Int) : Int) := of_decide_eq_true (by first | (with_reducible assumption) | assumption); first | exact h_ | (have e_ := (Kd.S_reads' HO_5.out).1; omega) | simpa using h_) (seg := [v156]) (j := 0) (show 1 ≤ 1 from by decide) (x' := t155) (Kd.M_row (Kd.R_mono (Kd.R_tight rfl (Kd.R_mono (ok' := fun k_ => ((fun _ => True)) k_ ∧ k_ ≠ go14) (Kd.R_apart' (HO157.out) (Kd.S_typed HO_5.out) (by decide)) (fun k_ hk => ⟨trivial, fun e_ => (hk.2) (by rw [e_]; rfl)⟩))) (fun _ h_ => Or.inr (h_)))) (fun _ hk => hk) (fun k_ hk_ => ((Kd.R_mono (ok' := fun k_ => ((fun _ => True)) k_ ∧ k_ ≠ go14) (Kd.R_apart' (HO157.out) (Kd.S_typed HO_5.out) (by decide)) (fun k_ hk => ⟨trivial, fun e_ => (hk.2) (by rw [e_]; rfl)⟩))).1 k_ hk_.symm))); (try (have hx16_0 := hcc16 0 _ rfl)); (try (try simp only [show ((Kd.slice 3 (Kd.int .i64))).sz = 1 from rfl, Nat.mul_one, Nat.add_zero] at hx16_0)); (try (have hf16_0 := hfr16 0)); (try (try simp only [show ((Kd.slice 3 (Kd.int .i64))).sz = 1 from rfl, Nat.mul_one, Nat.add_zero] at hf16_0)); (try ((try clear hcl16); (try clear hcc16); (try clear hfr16); (try clear hM16); (try clear hoki16); (try clear hH16))); (try (try simp only [show ((Kd.slice 3 (Kd.int .i64))).sz = 1 from rfl, Nat.mul_one, Nat.add_zero] at HP16)))); refine store_event (t := 24) (p := 38) (v := ?vo_w17) (w1 := (w15.setCell ⟨go14, (x29_2 : Int).toNat, none⟩ (v156))) ?hg ?ho ?hn ?hr ?_; (case ho => rfl); (case hg => rfl); (case hn => rfl); (case hr => first | (go_simp; done) | (go_simp; rfl; done) | (obtain ⟨_, _, e_⟩ := Kd.R_slice HO157.out; subst e_; first | (go_simp; done) | (go_simp; rfl))); intro w17 hw; have hg : w15.grownBy w17 (some go14) := (by rw [hw]; exact HP16.2); have hp_ : Kd.S (Kd.slice 3 (Kd.int .i64)) 24 w17 w.heap.size (fun _ => True) (.slice (some ⟨go14, 0, none⟩) x5_2.length co14) y158 := (by rw [hw, Ny158.out]; exact HP16.1); clear HP16; have n0_ := Aside0.mk (hp_); have n1_ := Aside0.mk ((by rw [hw]; exact below_set (HB.out) GB14.out : Below w.heap.size w w17)); clear HO_5; clear HB; clear HO157; have HO_5 := n0_; have HB := n1_; clear n0_ n1_; clear hg hw hp_)))
               go_roundg k2
               case measure => have := HJ1.out; have := HK2.out; omega
               case rel => exact ⟨(y158), (wrap64 (x29_2 + 1)), (by first | rfl | (simp; done) | (simp [*]; done)), H', ⟨by have := HJ1.out; have := HK2.out; omega⟩, ⟨by (with_reducible repeat (first | apply Kd.S_alloc | apply Kd.S_drewN | apply Kd.S_drew)); exact HO_5.out⟩, ⟨by repeat (first | (with_reducible first | exact HB.out | apply below_alloc | apply pw_below_drewN | apply below_drew1) | exact HB.out)⟩⟩
             · rw [if_neg c13] at H
               exact absurd H (by simp)
           · rw [if_neg c11] at H
             exact absurd H (by simp)
         · rw [if_neg c10] at H
           exact absurd H (by simp)
       · rw [if_neg c9] at H
         have c9b0 : decide (x29_2 < (l0.length : Int)) = false := decide_eq_false c9
         clear c9
         have H' := Aside0.mk H
         clear H
         go_wp2
         repeat (go_quiet (fail); try go_wp2)
         obtain ⟨n1, hn1, hS1⟩ := cut_above HO_5.out
         have HN1 := Aside0.mk (Nat.le_of_eq hn1)
         have HBN := Aside0.mk (show w.heap.size ≤ n1 by rw [hn1]; exact HB.out.size)
         have HO_5b := Aside0.mk hS1
         clear HO_5 hS1 hn1
         have HO_5 := HO_5b
         clear HO_5b
         go_loopg [8, 9] k2 (fun kq v8 v9 w' => ∃ (x5_3 : List (List Int)) (x8_3 : List (List Int)) (x9_3 : List Int), Aside0 (spec_PartsOf.l1 kq x5_3 x8_3 x9_3 = some (r1, r2, r3)) ∧ Aside0 (kq ≤ k2) ∧ Aside0 (Kd.S (Kd.slice 3 (Kd.int .i64)) 24 w' w.heap.size (fun k_ => k_ < n1) v152 x5_3) ∧ Aside0 (Kd.N (Kd.slice 3 (Kd.int .i64)) 24 w' w.heap.size (fun k_ => n1 ≤ k_ ∧ some k_ ≠ (v9 : Value).ownBlock) v8 x8_3) ∧ Aside0 (Kd.R (Kd.int .i64) 3 w' w.heap.size (fun k_ => n1 ≤ k_) v9 x9_3) ∧ Aside0 (Below w.heap.size w w') ∧ Aside0 (n1 ≤ w'.heap.size))
         case atStart => exact ⟨(x5_2), (([] : List (List Int))), (([] : List Int)), H', ⟨Nat.le_refl _⟩, ⟨by (with_reducible repeat (first | apply Kd.S_alloc | apply Kd.S_drewN | apply Kd.S_drew)); exact HO_5.out⟩, ⟨Kd.N_nil _ _ _ _ _⟩, ⟨Kd.R_nil _ _ _ _ _⟩, ⟨by repeat (first | (with_reducible first | exact HB.out | apply below_alloc | apply pw_below_drewN | apply below_drew1) | exact HB.out)⟩, HN1⟩
         case round =>
          clear H'
          obtain ⟨x5_3, x8_3, x9_3, HA, HK3, HO_5, HO_8, HO_9, HB, HNW⟩ := hrel
          have HNR := Aside0.mk HNW.out
          obtain ⟨b0, hb0⟩ : ∃ b, b = wr.heap.size := ⟨_, rfl⟩
          have HB0 := Aside0.mk (show n1 ≤ b0 by rw [hb0]; exact HNW.out)
          cases gk with
          | zero => exact absurd HA.out (by simp [spec_PartsOf.l1])
          | succ k3 =>
           have H := HA.out
           clear HA
           simp only [spec_PartsOf.l1] at H
           obtain ⟨s, hs, H⟩ := Option.bind_eq_some_iff.mp H
           have A18 := Aside0.mk hs
           clear hs
           obtain ⟨Ao25, co25, eo25⟩ := Kd.S_slice HO_5.out
           subst eo25
           by_cases c19 : s > 0
           · rw [if_pos c19] at H
             have c19b0 : decide (0 < s) = true := decide_eq_true c19
             clear c19
             obtain ⟨q, hq, H⟩ := Option.bind_eq_some_iff.mp H
             have A20 := Aside0.mk hq
             clear hq
             generalize hpq : rd_L1 q 0 = p at H
             by_cases hc : 0 < q.length ∧ 0 < p.length ∧ pOk x5_3 p 0 = true
             · rw [if_pos hc] at H
               obtain ⟨hq0, hp0, hok0⟩ := hc
               obtain ⟨c, hcl, H⟩ := Option.bind_eq_some_iff.mp H
               obtain ⟨y, hy, H⟩ := Option.bind_eq_some_iff.mp H
               by_cases hb8 : x8_3.length < 1000000 ∧ x9_3.length < 1000000
               · rw [if_pos hb8] at H
                 have H' := Aside0.mk H
                 have HCL := Aside0.mk hcl
                 have HY := Aside0.mk hy
                 have HB8 := Aside0.mk hb8
                 have HQ0 := Aside0.mk hq0
                 have HP0 := Aside0.mk hp0
                 have HOK := Aside0.mk hok0
                 clear H hcl hy hb8 hq0 hp0 hok0
                 go_wp2_with (first | (go_at_call 42; (with_reducible refine (spec_doSum.calls k3 _ _ x5_3 s _ ?side1 ?side2 A18.out).mono ?_); (case side1 => repeat (first | exact (Kd.S_reads' HO_5.out).2.2 | (with_reducible refine Kd.C_alloc ?_ _) | (with_reducible refine Kd.C_drewN ?_ _) | (with_reducible refine Kd.C_drew ?_))); (case side2 => exact (Kd.S_reads' HO_5.out).2.1); rintro e w' ⟨rfl, ⟨nd, rfl⟩⟩) | (go_at_call 45; (refine (spec_doPlacings.calls k3 _ _ x5_3 _ _ [] 1 q _ ?side1 ?side2 ?side3 ?side4 A20.out).mono ?_); (case side1 => repeat (first | exact (Kd.S_reads' HO_5.out).2.2 | (with_reducible refine Kd.C_alloc ?_ _) | (with_reducible refine Kd.C_drewN ?_ _) | (with_reducible refine Kd.C_drew ?_))); (case side2 => exact (Kd.S_reads' HO_5.out).2.1); (case side3 => exact Kd.C_nil _ _); (case side4 => exact Nat.le_refl _); rintro e w20 ⟨v44, rfl, ho0, hb⟩; obtain ⟨Aq_, cq_, eq_⟩ := Kd.N_slice ho0; subst eq_; obtain ⟨adq_, Ap_, cp_, eA_, hxq_, hVp_⟩ := first_row ho0 HQ0.out; cases eA_; rw [hpq] at hxq_ hVp_; have HP := Aside0.mk (Kd.V_mono (ok' := fun k_ => b0 ≤ k_) hVp_ (fun k_ hk_ => by rw [hb0]; exact hk_)); have HL8 := Aside0.mk (show ∀ k, (u8 : Value).ownBlock = some k → k < b0 from fun k h_ => by rw [hb0]; exact Kd.N_lt HO_8.out k h_); have HL9 := Aside0.mk (show ∀ k, (u9 : Value).ownBlock = some k → k < b0 from fun k h_ => by rw [hb0]; exact Kd.R_lt HO_9.out k h_); have HS20 := Aside0.mk (show b0 ≤ w20.heap.size by rw [hb0]; exact hb.size); have n0_ := Aside0.mk (Kd.S_below (by (with_reducible repeat (first | apply Kd.S_alloc | apply Kd.S_drewN | apply Kd.S_drew)); exact HO_5.out) hb); have n1_ := Aside0.mk (Kd.N_below (Kd.N_drewN HO_8.out _) hb); have n2_ := Aside0.mk (Kd.R_below (Kd.R_drewN HO_9.out _) hb); have n3_ := Aside0.mk (below_step (by repeat (first | (with_reducible first | exact HB.out | apply below_alloc | apply pw_below_drewN | apply below_drew1) | exact HB.out)) hb); have n4_ := Aside0.mk (Nat.le_trans HNW.out hb.size); clear HO_5 HO_8 HO_9 HB HNW ho0 hb hVp_; have HO_5 := n0_; have HO_8 := n1_; have HO_9 := n2_; have HB := n3_; have HNW := n4_; clear n0_ n1_ n2_ n3_ n4_; obtain ⟨ad0_, go0_, cc0_, e0_, ⟨hx0_, hy0_, hf0_⟩, _, _, _⟩ := ent_at HO_5.out HOK.out; cases e0_; rw [Addr.add_zero'] at hx0_; replace hx0_ : w20.cell? ad0_ = some (.slice (some ⟨go0_, 0, none⟩) (rd_L1 x5_3 0).length cc0_) := hx0_; replace hy0_ : w20.cell? ⟨go0_, (rd p 0).toNat, none⟩ = some (.int .i64 (pEnt x5_3 p 0)) := hy0_; clear hf0_; obtain ⟨adp_, ep_, hxp_⟩ := Kd.at_int (Kd.V_reads' HP.out).2.2 0 (Int.le_refl 0) (by have := HP0.out; omega); cases ep_; rw [show ((0 : Int)).toNat = 0 from rfl, Addr.add_zero'] at hxp_; obtain ⟨j1_, j2_, j3_⟩ := pOk_iff.1 HOK.out; replace j1_ := eq_true j1_; have j2b_ : (0 ≤ rd p 0) = True := eq_true j2_; have j3b_ : (rd p 0 < ((rd_L1 x5_3 0).length : Int)) = True := eq_true j3_; have j0_ := eq_true HP0.out; have q0_ := eq_true HQ0.out))
                 repeat (go_quiet (fail); try go_wp2)

                 go_loopg [11, 57] p.length (fun kq v11 v57 w' => ∃ (i : Nat) (a : Int), v11 = .int .i64 a ∧ v57 = .int .i64 (i : Int) ∧ i + kq = p.length ∧ Aside0 (pLeast x5_3 p kq i a = some c) ∧ ∃ nd, w' = w20.drewN nd)
                 case atStart => exact ⟨0, pEnt x5_3 p 0, rfl, by first | rfl | go_num, by omega, HCL, by first | exact ⟨_, rfl⟩ | exact ⟨0, rfl⟩ | exact ⟨1, rfl⟩⟩
                 case round =>
                  clear hx0_ hy0_ hxp_ hxq_ j1_ j2b_ j3b_ j2_ j3_ q0_
                  obtain ⟨i, a, rfl, rfl, hik, HL, nd2, rfl⟩ := hrel
                  cases gk with
                  | succ d =>
                   have H := HL.out
                   unfold pLeast at H
                   by_cases hk : pOk x5_3 p i = true
                   · rw [if_pos hk] at H
                     have HL2 := Aside0.mk H
                     clear H HL
                     obtain ⟨ad0_, go0_, cc0_, e0_, ⟨hx0_, hy0_, hf0_⟩, _, _, _⟩ := ent_at (Kd.S_drewN HO_5.out nd2) hk
                     cases e0_
                     obtain ⟨adp_, ep_, hxp_⟩ := Kd.at_int (Kd.C_drewN (Kd.V_reads' HP.out).2.2 nd2) (i : Int) (Int.natCast_nonneg i) (by omega)
                     cases ep_
                     rw [Int.toNat_natCast] at hxp_
                     obtain ⟨j1_, j2_, j3_⟩ := pOk_iff.1 hk
                     have i1_ : ((i : Int) < (p.length : Int)) = True := eq_true (by omega)
                     have i1b_ : (i < p.length) = True := eq_true (by omega)
                     have i2_ : ((i : Int) < (x5_3.length : Int)) = True := eq_true (by omega)
                     replace j1_ := eq_true j1_
                     replace j2_ := eq_true j2_
                     replace j3_ := eq_true j3_
                     go_wp2_with (go_at_call 46; (refine (spec_l1Least.calls a (pEnt x5_3 p i) (min a (pEnt x5_3 p i)) _ (l1Least_eq _ _)).mono ?_); rintro e w' ⟨rfl, ⟨nd3, rfl⟩⟩)
                     have hpl_ : p.length ≤ 9223372036854775807 := (Kd.V_reads' HP.out).2.2.2.1
                     go_roundg d
                     case measure => omega
                     case rel => exact ⟨i + 1, _, rfl, by rw [wsucc (show i < p.length by omega) hpl_], by omega, HL2, by first | exact ⟨_, rfl⟩ | exact ⟨0, rfl⟩ | exact ⟨1, rfl⟩⟩
                   · rw [if_neg hk] at H
                     cases H
                  | zero =>
                   have H := HL.out
                   unfold pLeast at H
                   obtain rfl := Option.some.inj H
                   clear H HL
                   have i1_ : ((i : Int) < (p.length : Int)) = False := eq_false (by omega)
                   have i1b_ : (i < p.length) = False := eq_false (by omega)
                   go_wp2
                   go_loopg [74] p.length (fun kq v74 w' => ∃ (i : Nat) (z : List (List Int)), v74 = .int .i64 (i : Int) ∧ i + kq = p.length ∧ Aside0 (pSub p a kq i z = some y) ∧ Aside0 (Kd.S (Kd.slice 3 (Kd.int .i64)) 24 w' w.heap.size (fun k_ => k_ < n1) (.slice (some ad0_) x5_3.length co25) z) ∧ Aside0 (KeptUp n1 w20 w') ∧ Aside0 (Below w.heap.size w w'))
                   case atStart => exact ⟨0, x5_3, rfl, by omega, HY, ⟨by (with_reducible repeat (first | apply Kd.S_alloc | apply Kd.S_drewN | apply Kd.S_drew)); exact HO_5.out⟩, ⟨KeptUp.refl _ _⟩, ⟨by repeat (first | (with_reducible first | exact HB.out | apply below_alloc | apply pw_below_drewN | apply below_drew1) | exact HB.out)⟩⟩
                   case round =>
                    clear i1_ i1b_ hik HO_5 HB
                    obtain ⟨i, z, rfl, hik, HZ, HO_5, HKU, HB⟩ := hrel
                    cases gk with
                    | succ d =>
                     have H := HZ.out
                     unfold pSub at H
                     by_cases hk : pOk z p i = true
                     · rw [if_pos hk] at H
                       have HZ2 := Aside0.mk H
                       clear H HZ
                       obtain ⟨ad1_, go1_, cc1_, e1_, ⟨hx1_, hy1_, hf1_⟩, hg1_, hn1_, hne1_⟩ := ent_at HO_5.out hk
                       cases e1_
                       obtain ⟨k1_, k2_⟩ := ent_put HO_5.out hk hx1_ (wrap64 (pEnt z p i - a))
                       obtain ⟨adp_, ep_, hxp_⟩ := Kd.at_int (Kd.V_reads' (Kd.V_step HP.out (fun k_ hk_ hl_ => HKU.out.2 k_ (Nat.le_trans HB0.out hk_) hl_))).2.2 (i : Int) (Int.natCast_nonneg i) (by omega)
                       cases ep_
                       rw [Int.toNat_natCast] at hxp_
                       obtain ⟨j1_, j2_, j3_⟩ := pOk_iff.1 hk
                       have i1_ : ((i : Int) < (p.length : Int)) = True := eq_true (by omega)
                       have i1b_ : (i < p.length) = True := eq_true (by omega)
                       have hzl_ : x5_3.length = z.length := (Kd.S_reads' HO_5.out).1
                       have i2_ : ((i : Int) < (x5_3.length : Int)) = True := eq_true (by omega)
                       have i2b_ : (i < x5_3.length) = True := eq_true (by omega)
                       clear hzl_
                       replace j1_ := eq_true j1_
                       replace j2_ := eq_true j2_
                       replace j3_ := eq_true j3_
                       have hpl_ : p.length ≤ 9223372036854775807 := (Kd.V_reads' HP.out).2.2.2.1
                       have HK1 := Aside0.mk k1_
                       have HK2 := Aside0.mk k2_
                       have HG1 := Aside0.mk hg1_
                       have HNN1 := Aside0.mk hn1_
                       clear k1_ k2_ hg1_ hn1_ hne1_
                       go_wp2
                       go_roundg d
                       case measure => omega
                       case rel => exact ⟨i + 1, _, by first | rfl | (rw [wsucc (show i < p.length by omega) hpl_]; done) | rw [wsucc (show i < p.length by omega) hpl_], by omega, HZ2, HK1, ⟨KeptUp.grown HKU.out HK2.out HNN1.out⟩, ⟨below_set HB.out HG1.out⟩⟩
                     · rw [if_neg hk] at H
                       cases H
                    | zero =>
                     have H := HZ.out
                     unfold pSub at H
                     obtain rfl := Option.some.inj H
                     clear H HZ
                     have i1_ : ((i : Int) < (p.length : Int)) = False := eq_false (by omega)
                     have i1b_ : (i < p.length) = False := eq_false (by omega)
                     have hz1_ := Aside0.mk (Kd.N_step HO_8.out (fun k_ hk_ hl_ => HKU.out.2 k_ hk_.1 hl_))
                     have hz2_ := Aside0.mk (Kd.R_step HO_9.out (fun k_ hk_ hl_ => HKU.out.2 k_ hk_ hl_))
                     have hz3_ := Aside0.mk (Kd.V_step HP.out (fun k_ hk_ hl_ => HKU.out.2 k_ (Nat.le_trans HB0.out hk_) hl_))
                     have hz4_ := Aside0.mk (Nat.le_trans HS20.out HKU.out.1)
                     clear HO_8 HO_9 HP HKU
                     have HO_8 := hz1_
                     have HO_9 := hz2_
                     have HP := hz3_
                     clear hz1_ hz2_ hz3_
                     go_wp2_with (first | ((with_reducible refine gate_dst (N := 93) rfl ?_); refine Kd.N_append (Kd.slice 3 (Kd.int .i64)) (w0 := w) w.heap.size rfl (.tmp 90) (.tmp 92) 22 24 (.slice none 0 0) 24 rfl Try.underlying22 info24 rfl (by decide) (by omega) u8 x8_3 p [.slice (some adp_) p.length cp_] (fun k_ => n1 ≤ k_ ∧ some k_ ≠ (u9 : Value).ownBlock) (fun k_ => b0 ≤ k_) rfl rfl ?aP ?aK ?aF ?aO ?aB ?aS ?aL ?_; (case aP => exact Kd.FK_slice_mk (Kd.V_reads' HP.out).2.1 (by (with_reducible repeat (first | apply Kd.F_alloc | apply Kd.F_drewN | apply Kd.F_drew)); exact Kd.V_F HP.out)); (case aK => exact (fun k_ hk_ => ⟨⟨Nat.le_trans HB0.out hk_, fun e_ => Nat.lt_irrefl _ (Nat.lt_of_lt_of_le (HL9.out k_ e_.symm) hk_)⟩, fun e_ => Nat.lt_irrefl _ (Nat.lt_of_lt_of_le (HL8.out k_ e_.symm) hk_)⟩)); (case aF => exact (fun k_ hk_ => ⟨Nat.le_trans HB0.out (Nat.le_trans hz4_.out hk_), fun e_ => Nat.lt_irrefl _ (Nat.lt_of_lt_of_le (HL9.out k_ e_.symm) (Nat.le_trans hz4_.out hk_))⟩)); (case aO => exact (by (with_reducible repeat (first | apply Kd.N_alloc | apply Kd.N_drewN | apply Kd.N_drew)); exact HO_8.out)); (case aB => exact (by repeat (first | (with_reducible first | exact HB.out | apply below_alloc | apply pw_below_drewN | apply below_drew1) | exact HB.out))); (case aS => exact HB.out.size); (case aL => have := HB8.out; omega); intro v95 w95 ho hb hg hat; have n0_ := Aside0.mk (Kd.S_grown (by (with_reducible repeat (first | apply Kd.S_alloc | apply Kd.S_drewN | apply Kd.S_drew)); exact HO_5.out) hg (fun k_ hk_ e_ => Nat.lt_irrefl _ (Nat.lt_of_lt_of_le hk_ (HO_8.out.1 k_ e_.symm).1))); have n1_ := Aside0.mk (Kd.R_mono (ok' := fun k_ => n1 ≤ k_) (Kd.R_grown (Kd.R_tight rfl (by (with_reducible repeat (first | apply Kd.R_alloc | apply Kd.R_drewN | apply Kd.R_drew)); exact HO_9.out)) hg (fun k_ hk_ e_ => (HO_8.out.1 k_ e_.symm).2 hk_)) (fun k_ hk_ => HO_9.out.1 k_ hk_.symm)); have n2_ := Aside0.mk ho; have n3_ := Aside0.mk hb; have n4_ := Aside0.mk (Nat.le_trans hz4_.out hg.size); clear HO_5 HO_9 HO_8 HB hz4_ ho hb hg hat; have HO_5 := n0_; have HO_9 := n1_; have HO_8 := n2_; have HB := n3_; have hz4_ := n4_; clear n0_ n1_ n2_ n3_ n4_) | ((with_reducible refine gate_dst (N := 97) rfl ?_); refine Kd.R_append (Kd.int .i64) (w0 := w) w.heap.size rfl (.tmp 94) (.tmp 96) 24 3 (.int .i64 0) 8 rfl Try.underlying24 info3 rfl (by decide) (by omega) u9 x9_3 a [.int .i64 a] (fun k_ => n1 ≤ k_) (fun _ => False) rfl rfl ?aP (fun _ hk => hk.elim) ?aF ?aO ?aB ?aS ?aL ?_; (case aP => exact rfl); (case aF => exact (fun k_ hk_ => Nat.le_trans HB0.out (Nat.le_trans hz4_.out hk_))); (case aO => exact (by (with_reducible repeat (first | apply Kd.R_alloc | apply Kd.R_drewN | apply Kd.R_drew)); exact HO_9.out)); (case aB => exact (by repeat (first | (with_reducible first | exact HB.out | apply below_alloc | apply pw_below_drewN | apply below_drew1) | exact HB.out))); (case aS => exact HB.out.size); (case aL => have := HB8.out; omega); intro v97 w97 ho hb hg hat; have n0_ := Aside0.mk (Kd.S_grown (by (with_reducible repeat (first | apply Kd.S_alloc | apply Kd.S_drewN | apply Kd.S_drew)); exact HO_5.out) hg (fun k_ hk_ e_ => Nat.lt_irrefl _ (Nat.lt_of_lt_of_le hk_ (HO_9.out.1 k_ e_.symm)))); have n1_ := Aside0.mk (Kd.N_after (by (with_reducible repeat (first | apply Kd.N_alloc | apply Kd.N_drewN | apply Kd.N_drew)); exact HO_8.out) hg hat); have n2_ := Aside0.mk ho; have n3_ := Aside0.mk hb; have n4_ := Aside0.mk (Nat.le_trans hz4_.out hg.size); clear HO_5 HO_9 HO_8 HB hz4_ ho hb hg hat; have HO_5 := n0_; have HO_8 := n1_; have HO_9 := n2_; have HB := n3_; have hz4_ := n4_; clear n0_ n1_ n2_ n3_ n4_))
                     go_roundg k3
                     case measure => omega
                     case rel => exact ⟨_, x8_3 ++ [p], x9_3 ++ [a], H', ⟨by have := HK3.out; omega⟩, HO_5, HO_8, HO_9, HB, ⟨Nat.le_trans HB0.out hz4_.out⟩⟩
               · rw [if_neg hb8] at H
                 cases H
             · rw [if_neg hc] at H
               cases H
           · rw [if_neg c19] at H
             have c19b0 : decide (0 < s) = false := decide_eq_false c19
             clear c19
             simp only [Option.some.injEq, Prod.mk.injEq] at H
             obtain ⟨rfl, rfl, rfl⟩ := H
             go_wp2_with (first | (go_at_call 42; (with_reducible refine (spec_doSum.calls k3 _ _ x5_3 s _ ?side1 ?side2 A18.out).mono ?_); (case side1 => repeat (first | exact (Kd.S_reads' HO_5.out).2.2 | (with_reducible refine Kd.C_alloc ?_ _) | (with_reducible refine Kd.C_drewN ?_ _) | (with_reducible refine Kd.C_drew ?_))); (case side2 => exact (Kd.S_reads' HO_5.out).2.1); rintro e w' ⟨rfl, ⟨nd, rfl⟩⟩))
             go_ret3
             exact ⟨_, _, rfl, Kd.N_mono (Kd.N_drewN HO_8.out _) (fun k hk => ⟨Nat.le_trans HBN.out hk.1, hk.2⟩), Kd.R_mono (Kd.R_drewN HO_9.out _) (fun _ _ => trivial), by repeat (first | (with_reducible first | exact HB.out | apply below_alloc | apply pw_below_drewN | apply below_drew1) | exact HB.out)⟩
end Go.Proofs.Ytkhpojcplejdjaa.A

namespace Go.Proofs.Ytkhpojcplejdjaa.A
open Go.RowKit Go.Proofs.YtkhpojcplejdjaaW.PrintWords Go.Proofs.YtkhpojcplejdjaaW.PrintLast Go.Proofs.YtkhpojcplejdjaaW.PrintMore
set_option linter.unusedVariables false
set_option linter.unusedSimpArgs false
theorem eqIntS_l (xs ys : List Int) (hx : xs.length ≤ 9223372036854775807) (hl : xs.length = ys.length) : ∀ (n i : Nat), i + n = xs.length → Ev (fun k => laws_eqIntS.l0 k xs ys (i : Int)) (decide (xs.drop i = ys.drop i))
 | 0, i, h => by
  refine Ev.succ ?_
  simp only [laws_eqIntS.l0, if_neg (show ¬ (i : Int) < (xs.length : Int) by omega)]
  rw [List.drop_eq_nil_of_le (by omega), List.drop_eq_nil_of_le (by omega)]
  exact Ev.now _
 | n + 1, i, h => by
  have hi : i < xs.length := by omega
  have hj : i < ys.length := by omega
  refine Ev.succ ?_
  simp only [laws_eqIntS.l0, if_pos (show (i : Int) < (xs.length : Int) by omega), if_pos (show (i : Int) < (ys.length : Int) by omega), if_pos (show (0 : Int) ≤ (i : Int) by omega), rdn hi, rdn hj, wsucc hi hx]
  rw [List.drop_eq_getElem_cons hi, List.drop_eq_getElem_cons hj]
  by_cases c : xs[i] = ys[i]
  · simp only [c, if_true, List.cons.injEq, true_and]
    exact eqIntS_l xs ys hx hl n (i + 1) (by omega)
  · simp only [c, if_false, List.cons.injEq, false_and, decide_false]
    exact Ev.now _
theorem eqIntS_ev (xs ys : List Int) (hx : xs.length ≤ 9223372036854775807) : Ev (fun k => laws_eqIntS.f k xs ys) (decide (xs = ys)) := by
 unfold laws_eqIntS.f
 by_cases h : xs.length = ys.length
 · simp only [if_pos (show (xs.length : Int) = (ys.length : Int) by omega)]
   exact eqIntS_l xs ys hx h xs.length 0 (by omega)
 · simp only [if_neg (show ¬ (xs.length : Int) = (ys.length : Int) by omega)]
   rw [decide_eq_false (fun e => h (by rw [e]))]
   exact Ev.now _
theorem eqIntS_self (xs : List Int) (hx : xs.length ≤ 9223372036854775807) : Ev (fun k => laws_eqIntS.f k xs xs) true := by
 have h := eqIntS_ev xs xs hx
 rw [decide_eq_true rfl] at h
 exact h
end Go.Proofs.Ytkhpojcplejdjaa.A

namespace Go.Proofs.Ytkhpojcplejdjaa.A
open Go.RowKit Go.Proofs.YtkhpojcplejdjaaW.PrintWords Go.Proofs.YtkhpojcplejdjaaW.PrintLast Go.Proofs.YtkhpojcplejdjaaW.PrintMore
set_option linter.unusedVariables false
set_option linter.unusedSimpArgs false
def marks (a : Int) (n : Nat) : List Int := (List.range n).map fun (j : Nat) => a + (j : Int)
theorem marks_length (a : Int) (n : Nat) : (marks a n).length = n := by simp [marks]
theorem marks_get (a : Int) (n i : Nat) (h : i < (marks a n).length) : (marks a n)[i] = a + (i : Int) := by simp [marks]
theorem markIntS_l (a : Int) (m : Nat) (h0 : 0 ≤ a) (hm : a + m ≤ 9223372036854775807) : ∀ (n i : Nat) (xs : List Int), i + n = m → xs.length = m → xs.take i = (marks a m).take i → Ev (fun k => laws_markIntS.l0 k xs (a + (i : Int)) (i : Int)) (a + (m : Int), marks a m)
 | 0, i, xs, h, hl, ht => by
  refine Ev.succ ?_
  simp only [laws_markIntS.l0, if_neg (show ¬ (i : Int) < (xs.length : Int) by omega)]
  rw [List.take_of_length_le (by omega), List.take_of_length_le (by rw [marks_length]; omega)] at ht
  rw [ht, show i = m by omega]
  exact Ev.now _
 | n + 1, i, xs, h, hl, ht => by
  have hi : i < xs.length := by omega
  refine Ev.succ ?_
  simp only [laws_markIntS.l0, if_pos (show (i : Int) < (xs.length : Int) by omega), if_pos (show (0 : Int) ≤ (i : Int) by omega), wsucc hi (by omega), Int.toNat_natCast, show wrap64 (a + (i : Int) + 1) = a + ((i + 1 : Nat) : Int) from by rw [w64 (by omega) (by omega)]; omega]
  refine markIntS_l a m h0 hm n (i + 1) _ (by omega) (by rw [List.length_set]; exact hl) ?_
  rw [List.take_add_one, List.take_add_one, List.take_set_of_le (Nat.le_refl _), ht]
  congr 1
  rw [List.getElem?_set_self (by omega), List.getElem?_eq_getElem (by rw [marks_length]; omega), marks_get]
theorem markIntS_ev (xs : List Int) (a : Int) (h0 : 0 ≤ a) (hm : a + xs.length ≤ 9223372036854775807) : Ev (fun k => laws_markIntS.f k xs a) (a + (xs.length : Int), marks a xs.length) := by
 have h := markIntS_l a xs.length h0 hm xs.length 0 xs (by omega) rfl (by simp)
 simp only [show a + ((0 : Nat) : Int) = a by omega] at h
 exact h
theorem heldIntS_l (a : Int) (m : Nat) (h0 : 0 ≤ a) (hm : a + m ≤ 9223372036854775807) : ∀ (n i : Nat), i + n = m → Ev (fun k => laws_heldIntS.l0 k (marks a m) (a + (i : Int)) (i : Int)) (a + (m : Int))
 | 0, i, h => by
  refine Ev.succ ?_
  simp only [laws_heldIntS.l0, marks_length, if_neg (show ¬ (i : Int) < (m : Int) by omega)]
  rw [show i = m by omega]
  exact Ev.now _
 | n + 1, i, h => by
  have hi : i < (marks a m).length := by rw [marks_length]; omega
  refine Ev.succ ?_
  simp only [laws_heldIntS.l0, rdn hi, marks_get, marks_length, if_pos (show (i : Int) < (m : Int) by omega), if_pos (show (0 : Int) ≤ (i : Int) by omega), wsucc hi (by rw [marks_length]; omega), if_true, show wrap64 (a + (i : Int) + 1) = a + ((i + 1 : Nat) : Int) from by rw [w64 (by omega) (by omega)]; omega]
  exact heldIntS_l a m h0 hm n (i + 1) (by omega)
theorem heldIntS_ev (a : Int) (m : Nat) (h0 : 0 ≤ a) (hm : a + m ≤ 9223372036854775807) : Ev (fun k => laws_heldIntS.f k (marks a m) a) (a + (m : Int)) := by
 have h := heldIntS_l a m h0 hm m 0 (by omega)
 simp only [show a + ((0 : Nat) : Int) = a by omega] at h
 exact h
end Go.Proofs.Ytkhpojcplejdjaa.A

namespace Go.Proofs.Ytkhpojcplejdjaa.A
open Go.RowKit Go.Proofs.YtkhpojcplejdjaaW.PrintWords Go.Proofs.YtkhpojcplejdjaaW.PrintLast Go.Proofs.YtkhpojcplejdjaaW.PrintMore
set_option linter.unusedVariables false
set_option linter.unusedSimpArgs false
theorem mks_marks (a : Int) (n : Nat) : mks a n = marks a n := rfl
theorem mark_any (xs : List Int) (a : Int) (h0 : 0 ≤ a) (h1 : a + (xs.length : Int) ≤ 9223372036854775807) : ∃ k, laws_markIntS.f k xs a = some (a + (xs.length : Int), mks a xs.length) := Ev.get (markIntS_ev xs a h0 h1)
theorem markSS_get : ∀ (a : Int) (l : List (List Int)) (i : Nat) (h : i < l.length), (markSS a l)[i]'(by rw [markSS_length]; exact h) = mks (a + (totSS (l.take i) : Int)) (l[i]).length
 | a, [], i, h => by simp at h
 | a, x :: l, 0, h => by simp [markSS, totSS]
 | a, x :: l, i + 1, h => by
  have hi : i < l.length := by simpa using h
  have := markSS_get (a + (x.length : Int)) l i hi
  simp only [markSS, List.getElem_cons_succ, List.take_succ_cons]
  rw [this]
  have e : a + (x.length : Int) + (totSS (l.take i) : Int) = a + (totSS (x :: l.take i) : Int) := by simp [totSS]; omega
  rw [e]
theorem rd_L1n {xs : List (List Int)} {i : Nat} (h : i < xs.length) : rd_L1 xs (i : Int) = xs[i] := by
 unfold rd_L1
 rw [Int.toNat_natCast, List.getD_eq_getElem?_getD, List.getElem?_eq_getElem h]
 rfl
theorem heldIntSS_l (a : Int) (L : List (List Int)) (h0 : 0 ≤ a) (hm : a + (totSS L : Int) ≤ 4611686018427387903) (hl : L.length ≤ 4611686018427387903) : ∀ (n i : Nat), i + n = L.length → Ev (fun k => laws_heldIntSS.l0 k (markSS a L) (a + (totSS (L.take i) : Int)) (i : Int)) (a + (totSS L : Int))
 | 0, i, h => by
  refine Ev.succ ?_
  simp only [laws_heldIntSS.l0, markSS_length, if_neg (show ¬ (i : Int) < (L.length : Int) by omega)]
  rw [List.take_of_length_le (by omega)]
  exact Ev.now _
 | n + 1, i, h => by
  have hi : i < L.length := by omega
  have hi' : i < (markSS a L).length := by rw [markSS_length]; exact hi
  have hle := totSS_le L (i + 1)
  rw [totSS_take hi] at hle
  refine Ev.succ ?_
  simp only [laws_heldIntSS.l0, markSS_length, if_pos (show (i : Int) < (L.length : Int) by omega), if_pos (show (0 : Int) ≤ (i : Int) by omega), rd_L1n hi', markSS_get a L i hi, mks_marks, wsucc hi (by omega)]
  refine Ev.bind (heldIntS_ev (a + (totSS (L.take i) : Int)) (L[i]).length (by omega) (by omega)) ?_
  simp only [if_neg (show ¬ a + (totSS (L.take i) : Int) + ((L[i]).length : Int) < 0 by omega)]
  have := heldIntSS_l a L h0 hm hl n (i + 1) (by omega)
  rw [totSS_take hi] at this
  rw [show a + (totSS (L.take i) : Int) + ((L[i]).length : Int) = a + ((totSS (L.take i) + (L[i]).length : Nat) : Int) by omega]
  exact this
theorem heldIntSS_ev (a : Int) (L : List (List Int)) (h0 : 0 ≤ a) (hm : a + (totSS L : Int) ≤ 4611686018427387903) (hl : L.length ≤ 4611686018427387903) : Ev (fun k => laws_heldIntSS.f k (markSS a L) a) (a + (totSS L : Int)) := by
 have h := heldIntSS_l a L h0 hm hl L.length 0 (by omega)
 simp only [List.take_zero] at h
 rw [show a + (totSS ([] : List (List Int)) : Int) = a by simp [totSS]] at h
 exact h
theorem len_tot {l : List (List Int)} {x : List Int} (h : x ∈ l) : x.length ≤ totSS l := by
 induction l with
 | nil => simp at h
 | cons y l ih =>
  simp only [totSS, List.map_cons, List.sum_cons] at *
  rcases List.mem_cons.1 h with rfl | h
  · omega
  · have := ih h
    omega
theorem eqIntSS_l (L : List (List Int)) (hb : totSS L ≤ 4611686018427387903) (hl : L.length ≤ 4611686018427387903) : ∀ (n i : Nat), i + n = L.length → Ev (fun k => laws_eqIntSS.l0 k L L (i : Int)) true
 | 0, i, h => by
  refine Ev.succ ?_
  simp only [laws_eqIntSS.l0, if_neg (show ¬ (i : Int) < (L.length : Int) by omega)]
  exact Ev.now _
 | n + 1, i, h => by
  have hi : i < L.length := by omega
  have hx := len_tot (List.getElem_mem hi)
  refine Ev.succ ?_
  simp only [laws_eqIntSS.l0, if_pos (show (i : Int) < (L.length : Int) by omega), if_pos (show (0 : Int) ≤ (i : Int) by omega), rd_L1n hi, wsucc hi (by omega)]
  refine Ev.bind (eqIntS_self L[i] (by omega)) ?_
  simp only [if_true]
  exact eqIntSS_l L hb hl n (i + 1) (by omega)
theorem eqIntSS_self (L : List (List Int)) (hb : totSS L ≤ 4611686018427387903) (hl : L.length ≤ 4611686018427387903) : Ev (fun k => laws_eqIntSS.f k L L) true := by
 unfold laws_eqIntSS.f
 simp only [if_true]
 exact eqIntSS_l L hb hl L.length 0 (by omega)
end Go.Proofs.Ytkhpojcplejdjaa.A

namespace Go.Proofs.Ytkhpojcplejdjaa.A
open Go.RowKit Go.Proofs.YtkhpojcplejdjaaW.PrintWords Go.Proofs.YtkhpojcplejdjaaW.PrintLast Go.Proofs.YtkhpojcplejdjaaW.PrintMore
set_option linter.unusedVariables false
set_option linter.unusedSimpArgs false
end Go.Proofs.Ytkhpojcplejdjaa.A

namespace Go.Proofs.Ytkhpojcplejdjaa.A
open Go.RowKit Go.Proofs.YtkhpojcplejdjaaW.PrintWords Go.Proofs.YtkhpojcplejdjaaW.PrintLast Go.Proofs.YtkhpojcplejdjaaW.PrintMore
set_option linter.unusedVariables false
set_option linter.unusedSimpArgs false
theorem tot_le {l : List (List Int)} {B : Nat} (h : ∀ x ∈ l, x.length ≤ B) : totSS l ≤ B * l.length := by
 induction l with
 | nil => simp [totSS]
 | cons x l ih =>
  have := ih (fun y hy => h y (List.mem_cons_of_mem _ hy))
  have := h x List.mem_cons_self
  simp only [totSS, List.map_cons, List.sum_cons, List.length_cons, Nat.mul_succ] at *
  omega
end Go.Proofs.Ytkhpojcplejdjaa.A

-- made by a program of this repo (wip/pp.py) through the kit's printer
namespace Go.Proofs.Ytkhpojcplejdjaa.A
open Go.RowKit Go.Proofs.YtkhpojcplejdjaaW.PrintWords Go.Proofs.YtkhpojcplejdjaaW.PrintLast Go.Proofs.YtkhpojcplejdjaaW.PrintMore
attribute [local go_sem] max2_int min2_int max_two min_two max_three min_three max_four min_four
set_option linter.unusedVariables false
set_option linter.unusedSimpArgs false

end Go.Proofs.Ytkhpojcplejdjaa.A

-- made by a program of this repo (wip/pp.py) through the kit's printer
namespace Go.Proofs.Ytkhpojcplejdjaa.A
open Go.RowKit Go.Proofs.YtkhpojcplejdjaaW.PrintWords Go.Proofs.YtkhpojcplejdjaaW.PrintLast Go.Proofs.YtkhpojcplejdjaaW.PrintMore
attribute [local go_sem] max2_int min2_int max_two min_two max_three min_three max_four min_four
set_option linter.unusedVariables false
set_option linter.unusedSimpArgs false

end Go.Proofs.Ytkhpojcplejdjaa.A

namespace Go.Proofs.Ytkhpojcplejdjaa.A
open Go.RowKit Go.Proofs.YtkhpojcplejdjaaW.PrintWords Go.Proofs.YtkhpojcplejdjaaW.PrintLast Go.Proofs.YtkhpojcplejdjaaW.PrintMore
set_option linter.unusedVariables false
set_option linter.unusedSimpArgs false
theorem foldl_add : ∀ (l : List Int) (s : Int), l.foldl (fun s x => s + x) s = s + l.sum
 | [], s => by simp
 | x :: l, s => by
  rw [List.foldl_cons, foldl_add l, List.sum_cons]
  omega
end Go.Proofs.Ytkhpojcplejdjaa.A

namespace Go.Proofs.Ytkhpojcplejdjaa.A
open Go.RowKit Go.Proofs.YtkhpojcplejdjaaW.PrintWords Go.Proofs.YtkhpojcplejdjaaW.PrintLast Go.Proofs.YtkhpojcplejdjaaW.PrintMore
set_option linter.unusedVariables false
set_option linter.unusedSimpArgs false
theorem doGood_l (l : List (List Int)) (hl : l.length ≤ 1048576) (hx : ∀ x ∈ l, x.length ≤ 1048576) : ∀ (n i : Nat), i + n = l.length → Ev (fun k => spec_doGood.l0 k l l (l.length : Int) (i : Int)) (((l.drop i).all (rowB l.length)) && decide ((1 : Int) ≤ l.length ∧ (l.length : Int) ≤ 6))
 | 0, i, h => by
  refine Ev.succ ?_
  simp only [spec_doGood.l0, if_neg (show ¬ (i : Int) < (l.length : Int) by omega), l1In_eq, Option.bind_some]
  rw [List.drop_eq_nil_of_le (by omega), List.all_nil, Bool.true_and]
  exact Ev.now _
 | n + 1, i, h => by
  have hi : i < l.length := by omega
  have hxi := hx _ (List.getElem_mem hi)
  refine Ev.succ ?_
  simp only [spec_doGood.l0, if_pos (show (i : Int) < (l.length : Int) by omega), if_pos (show (0 : Int) ≤ (i : Int) by omega), rd_L1n hi, wsucc hi (by omega)]
  rw [List.drop_eq_getElem_cons hi, List.all_cons]
  by_cases c : ((l[i]).length : Int) = (l.length : Int)
  · simp only [if_pos c]
    refine Ev.bind (l1All_ev l[i] 0 1000000 (by omega)) ?_
    have e : rowB l.length l[i] = inR 0 1000000 l[i] := by
     unfold rowB
     rw [decide_eq_true c, Bool.true_and]
    rw [e]
    cases inR 0 1000000 l[i] with
    | true =>
     simp only [if_true, Bool.true_and]
     exact doGood_l l hl hx n (i + 1) (by omega)
    | false =>
     simp only [Bool.false_eq_true, if_false, Bool.false_and]
     exact Ev.now _
  · have e : rowB l.length l[i] = false := by
     unfold rowB
     rw [decide_eq_false c, Bool.false_and]
    simp only [if_neg c, e, Bool.false_and]
    exact Ev.now _
theorem doGood_ev (l : List (List Int)) (hl : l.length ≤ 1048576) (ht : totSS l ≤ 1048576) : Ev (fun k => spec_doGood.f k l) (squareB l) := by
 have h := doGood_l l hl (fun x h => Nat.le_trans (len_tot h) ht) l.length 0 (by omega)
 rw [List.drop_zero, Bool.and_comm] at h
 exact h
theorem implIsSquare_eq (l : List (List Int)) (hl : l.length ≤ 1048576) (ht : totSS l ≤ 1048576) : impl_IsSquare.f l = some (squareB l) := by
 unfold impl_IsSquare.f
 rw [if_pos ⟨List.all_eq_true.2 fun x h => decide_eq_true (Nat.le_trans (len_tot h) ht), hl⟩]
end Go.Proofs.Ytkhpojcplejdjaa.A

namespace Go.Proofs.Ytkhpojcplejdjaa.A
open Go.RowKit Go.Proofs.YtkhpojcplejdjaaW.PrintWords Go.Proofs.YtkhpojcplejdjaaW.PrintLast Go.Proofs.YtkhpojcplejdjaaW.PrintMore
set_option linter.unusedVariables false
set_option linter.unusedSimpArgs false
def Bg (l : List Int) : Prop := l.length ≤ 1000 ∧ ∀ x ∈ l, 0 ≤ x ∧ x ≤ 1000000
theorem liSumB_ev (l : List Int) (h : Bg l) : Ev (fun k => spec_liSum.f k l) l.sum := by
 unfold spec_liSum.f
 have hl := h.1
 have h := ev_fold (xs := l) (g := fun k s i => spec_liSum.l0 k s l (l.length : Int) i) (fun s x => s + x) (fun s i => 0 ≤ s ∧ s ≤ 1000000 * (i : Int)) id
  (fun s _ => Ev.succ (by simp only [spec_liSum.l0, if_neg (Int.lt_irrefl _)]; exact Ev.now _))
  (fun i hi s r hs _ hr => Ev.succ (by
   have hb := h.2 _ (List.getElem_mem hi)
   simp only [spec_liSum.l0, if_pos (show (i : Int) < (l.length : Int) by omega), if_pos (show (0 : Int) ≤ (i : Int) by omega), rdn hi, wsucc hi (by omega), w64 (x := s + l[i]) (by omega) (by omega)]
   exact hr))
  (fun i hi s hs => by
   have hb := h.2 _ (List.getElem_mem hi)
   omega) l.length 0 0 (by omega) (by omega)
 rw [List.drop_zero, foldl_add, Int.zero_add] at h
 exact h
theorem totalB_ev (l : List Int) (h : Bg l) : Ev (fun k => impl_total.f k l) l.sum := by
 unfold impl_total.f
 have hl := h.1
 have h := ev_fold (xs := l) (g := fun k s i => impl_total.l0 k s l (l.length : Int) i) (fun s x => s + x) (fun s i => 0 ≤ s ∧ s ≤ 1000000 * (i : Int)) id
  (fun s _ => Ev.succ (by simp only [impl_total.l0, if_neg (Int.lt_irrefl _)]; exact Ev.now _))
  (fun i hi s r hs _ hr => Ev.succ (by
   have hb := h.2 _ (List.getElem_mem hi)
   simp only [impl_total.l0, if_pos (show (i : Int) < (l.length : Int) by omega), if_pos (show (0 : Int) ≤ (i : Int) by omega), rdn hi, wsucc hi (by omega), w64 (x := s + l[i]) (by omega) (by omega)]
   exact hr))
  (fun i hi s hs => by
   have hb := h.2 _ (List.getElem_mem hi)
   omega) l.length 0 0 (by omega) (by omega)
 rw [List.drop_zero, foldl_add, Int.zero_add] at h
 exact h
def okI (l : List (List Int)) (s : Int) (i : Nat) : Bool := decide ((l.getD i []).sum = s) && decide (((l.map fun x => rd x (i : Int)).sum) = s)
theorem colP_step {l : List (List Int)} {i j : Nat} (hj : j < l.length) : ((l.take (j + 1)).map fun x => rd x (i : Int)).sum = ((l.take j).map fun x => rd x (i : Int)).sum + rd l[j] (i : Int) := by
 rw [List.take_succ_eq_append_getElem hj, List.map_append, List.sum_append]
 simp
structure Tab (l : List (List Int)) : Prop where
 len : l.length ≤ 6
 row : ∀ x ∈ l, x.length = l.length ∧ ∀ y ∈ x, 0 ≤ y ∧ y ≤ 1000000
theorem tab_bg {l : List (List Int)} (h : Tab l) {x : List Int} (hx : x ∈ l) : Bg x := ⟨by have := (h.row x hx).1; have := h.len; omega, (h.row x hx).2⟩
theorem tab_rd {l : List (List Int)} (h : Tab l) {x : List Int} (hx : x ∈ l) {i : Nat} (hi : i < l.length) : 0 ≤ rd x (i : Int) ∧ rd x (i : Int) ≤ 1000000 := by
 have h1 := (h.row x hx).1
 rw [rdn (show i < x.length by omega)]
 exact (h.row x hx).2 _ (List.getElem_mem (by omega))
theorem colP_bd {l : List (List Int)} (h : Tab l) {i : Nat} (hi : i < l.length) : ∀ j : Nat, j ≤ l.length → 0 ≤ ((l.take j).map fun x => rd x (i : Int)).sum ∧ ((l.take j).map fun x => rd x (i : Int)).sum ≤ 1000000 * j
 | 0, _ => by simp
 | j + 1, hj => by
  have ih := colP_bd h hi j (by omega)
  have hb := tab_rd h (List.getElem_mem (show j < l.length by omega)) hi
  rw [colP_step (by omega)]
  omega
theorem specSum_l1 {l : List (List Int)} (h : Tab l) (s : Int) (i : Nat) (hi : i < l.length) (x : List Int) {r : Int} (hr : Ev (fun k => (spec_liSum.f k x).bind fun t => if t = s then (if (l.map fun x => rd x (i : Int)).sum = s then spec_doSum.l0 k l s l (l.length : Int) (wrap64 ((i : Int) + 1)) else some (-1 : Int)) else some (-1 : Int)) r) : ∀ (n j : Nat), j + n = l.length → Ev (fun k => spec_doSum.l1 k l s (i : Int) x (((l.take j).map fun x => rd x (i : Int)).sum) l (l.length : Int) (i : Int) l (l.length : Int) (j : Int)) r
 | 0, j, e => by
  refine Ev.succ ?_
  simp only [spec_doSum.l1, if_neg (show ¬ (j : Int) < (l.length : Int) by omega)]
  rw [List.take_of_length_le (by omega)]
  exact hr
 | n + 1, j, e => by
  have hj : j < l.length := by omega
  have hlen := (h.row _ (List.getElem_mem hj)).1
  have b1 := colP_bd h hi j (by omega)
  have b2 := tab_rd h (List.getElem_mem hj) hi
  have b3 := h.len
  refine Ev.succ ?_
  simp only [spec_doSum.l1, if_pos (show (j : Int) < (l.length : Int) by omega), if_pos (show (0 : Int) ≤ (j : Int) by omega), if_pos (show (0 : Int) ≤ (i : Int) by omega), rd_L1n hj, if_pos (show (i : Int) < ((l[j]).length : Int) by omega), wsucc hj (by omega), w64 (x := ((l.take j).map fun x => rd x (i : Int)).sum + rd l[j] (i : Int)) (by omega) (by omega)]
  rw [← colP_step hj]
  exact specSum_l1 h s i hi x hr n (j + 1) (by omega)
theorem specSum_l0 {l : List (List Int)} (h : Tab l) (s : Int) : ∀ (n i : Nat), i + n = l.length → Ev (fun k => spec_doSum.l0 k l s l (l.length : Int) (i : Int)) (if (List.range' i n).all (okI l s) = true then s else (-1 : Int))
 | 0, i, e => by
  refine Ev.succ ?_
  simp only [spec_doSum.l0, if_neg (show ¬ (i : Int) < (l.length : Int) by omega), List.range'_zero, List.all_nil, if_true]
  exact Ev.now _
 | n + 1, i, e => by
  have hi : i < l.length := by omega
  refine Ev.succ ?_
  simp only [spec_doSum.l0, if_pos (show (i : Int) < (l.length : Int) by omega), if_pos (show (0 : Int) ≤ (i : Int) by omega), rd_L1n hi]
  have key := specSum_l1 h s i hi l[i] (r := if (List.range' i (n + 1)).all (okI l s) = true then s else (-1 : Int)) ?_ l.length 0 (by omega)
  · simp only [List.take_zero, List.map_nil, List.sum_nil] at key
    exact key
  · have ho : okI l s i = (decide ((l[i]).sum = s) && decide (((l.map fun x => rd x (i : Int)).sum) = s)) := by
     unfold okI
     rw [List.getD_eq_getElem?_getD, List.getElem?_eq_getElem hi]
     rfl
    refine Ev.bind (liSumB_ev l[i] (tab_bg h (List.getElem_mem hi))) ?_
    rw [List.range'_succ, List.all_cons, ho]
    by_cases c1 : (l[i]).sum = s
    · simp only [if_pos c1]
      by_cases c2 : (l.map fun x => rd x (i : Int)).sum = s
      · simp only [if_pos c2, wsucc hi (by have := h.len; omega), decide_eq_true c1, decide_eq_true c2, Bool.true_and]
        exact specSum_l0 h s n (i + 1) (by omega)
      · simp only [if_neg c2, decide_eq_false c2, Bool.and_false, Bool.false_and, Bool.false_eq_true, if_false]
        exact Ev.now _
    · simp only [if_neg c1, decide_eq_false c1, Bool.false_and, Bool.false_eq_true, if_false]
      exact Ev.now _
theorem implSum_l1 {l : List (List Int)} (h : Tab l) (s : Int) (i : Nat) (hi : i < l.length) (x : List Int) {r : Int × Bool} (hr : Ev (fun k => (impl_total.f k x).bind fun t => if t = s then (if (l.map fun x => rd x (i : Int)).sum = s then impl_equalSum.l0 k l s l (l.length : Int) (wrap64 ((i : Int) + 1)) else some ((0 : Int), false)) else some ((0 : Int), false)) r) : ∀ (n j : Nat), j + n = l.length → Ev (fun k => impl_equalSum.l1 k l s (i : Int) x (((l.take j).map fun x => rd x (i : Int)).sum) l (l.length : Int) (i : Int) l (l.length : Int) (j : Int)) r
 | 0, j, e => by
  refine Ev.succ ?_
  simp only [impl_equalSum.l1, if_neg (show ¬ (j : Int) < (l.length : Int) by omega)]
  rw [List.take_of_length_le (by omega)]
  exact hr
 | n + 1, j, e => by
  have hj : j < l.length := by omega
  have hlen := (h.row _ (List.getElem_mem hj)).1
  have b1 := colP_bd h hi j (by omega)
  have b2 := tab_rd h (List.getElem_mem hj) hi
  have b3 := h.len
  refine Ev.succ ?_
  simp only [impl_equalSum.l1, if_pos (show (j : Int) < (l.length : Int) by omega), if_pos (show (0 : Int) ≤ (j : Int) by omega), if_pos (show (0 : Int) ≤ (i : Int) by omega), rd_L1n hj, if_pos (show (i : Int) < ((l[j]).length : Int) by omega), wsucc hj (by omega), w64 (x := ((l.take j).map fun x => rd x (i : Int)).sum + rd l[j] (i : Int)) (by omega) (by omega)]
  rw [← colP_step hj]
  exact implSum_l1 h s i hi x hr n (j + 1) (by omega)
theorem implSum_l0 {l : List (List Int)} (h : Tab l) (s : Int) : ∀ (n i : Nat), i + n = l.length → Ev (fun k => impl_equalSum.l0 k l s l (l.length : Int) (i : Int)) (if (List.range' i n).all (okI l s) = true then (s, true) else ((0 : Int), false))
 | 0, i, e => by
  refine Ev.succ ?_
  simp only [impl_equalSum.l0, if_neg (show ¬ (i : Int) < (l.length : Int) by omega), List.range'_zero, List.all_nil, if_true]
  exact Ev.now _
 | n + 1, i, e => by
  have hi : i < l.length := by omega
  refine Ev.succ ?_
  simp only [impl_equalSum.l0, if_pos (show (i : Int) < (l.length : Int) by omega), if_pos (show (0 : Int) ≤ (i : Int) by omega), rd_L1n hi]
  have key := implSum_l1 h s i hi l[i] (r := if (List.range' i (n + 1)).all (okI l s) = true then (s, true) else ((0 : Int), false)) ?_ l.length 0 (by omega)
  · simp only [List.take_zero, List.map_nil, List.sum_nil] at key
    exact key
  · have ho : okI l s i = (decide ((l[i]).sum = s) && decide (((l.map fun x => rd x (i : Int)).sum) = s)) := by
     unfold okI
     rw [List.getD_eq_getElem?_getD, List.getElem?_eq_getElem hi]
     rfl
    refine Ev.bind (totalB_ev l[i] (tab_bg h (List.getElem_mem hi))) ?_
    rw [List.range'_succ, List.all_cons, ho]
    by_cases c1 : (l[i]).sum = s
    · simp only [if_pos c1]
      by_cases c2 : (l.map fun x => rd x (i : Int)).sum = s
      · simp only [if_pos c2, wsucc hi (by have := h.len; omega), decide_eq_true c1, decide_eq_true c2, Bool.true_and]
        exact implSum_l0 h s n (i + 1) (by omega)
      · simp only [if_neg c2, decide_eq_false c2, Bool.and_false, Bool.false_and, Bool.false_eq_true, if_false]
        exact Ev.now _
    · simp only [if_neg c1, decide_eq_false c1, Bool.false_and, Bool.false_eq_true, if_false]
      exact Ev.now _
theorem square_tab {l : List (List Int)} (h : squareB l = true) : Tab l ∧ 1 ≤ l.length := by
 unfold squareB at h
 rw [Bool.and_eq_true, decide_eq_true_eq, List.all_eq_true] at h
 refine ⟨⟨by omega, fun x hx => ?_⟩, by omega⟩
 have hr := h.2 x hx
 unfold rowB inR at hr
 rw [Bool.and_eq_true, decide_eq_true_eq, List.all_eq_true] at hr
 exact ⟨by omega, fun y hy => by simpa using hr.2 y hy⟩
def sum0 (l : List (List Int)) : Int := (l.getD 0 []).sum
theorem sum0_at {l : List (List Int)} (h : 0 < l.length) : sum0 l = (l[0]).sum := by
 unfold sum0
 rw [List.getD_eq_getElem?_getD, List.getElem?_eq_getElem h]
 rfl
end Go.Proofs.Ytkhpojcplejdjaa.A

namespace Go.Proofs.Ytkhpojcplejdjaa.A
open Go.RowKit Go.Proofs.YtkhpojcplejdjaaW.PrintWords Go.Proofs.YtkhpojcplejdjaaW.PrintLast Go.Proofs.YtkhpojcplejdjaaW.PrintMore
set_option linter.unusedVariables false
set_option linter.unusedSimpArgs false
/-! Hall's theorem over the numbers below n: sets are functions to Bool -/
def cardB (n : Nat) (S : Nat → Bool) : Nat := (List.range n).countP S
theorem countP_sub {α : Type} (A B D : α → Bool) : ∀ l : List α, (∀ x ∈ l, A x = true → B x = true ∨ D x = true) → l.countP A ≤ l.countP B + l.countP D
 | [], _ => by simp
 | x :: l, h => by
  have ih := countP_sub A B D l (fun y hy => h y (List.mem_cons_of_mem _ hy))
  have hx := h x List.mem_cons_self
  rw [List.countP_cons, List.countP_cons, List.countP_cons]
  cases hA : A x with
  | false => simp only [Bool.false_eq_true, if_false]; omega
  | true =>
   rcases hx hA with hB | hD
   · rw [hB]; simp only [if_true]; omega
   · rw [hD]; simp only [if_true]; omega
theorem countP_two {α : Type} (A B D : α → Bool) : ∀ l : List α, (∀ x ∈ l, B x = true → A x = true ∧ D x = false) → (∀ x ∈ l, D x = true → A x = true) → l.countP B + l.countP D ≤ l.countP A
 | [], _, _ => by simp
 | x :: l, h, k => by
  have ih := countP_two A B D l (fun y hy => h y (List.mem_cons_of_mem _ hy)) (fun y hy => k y (List.mem_cons_of_mem _ hy))
  have hx := h x List.mem_cons_self
  have kx := k x List.mem_cons_self
  rw [List.countP_cons, List.countP_cons, List.countP_cons]
  cases hB : B x with
  | true =>
   obtain ⟨h1, h2⟩ := hx hB
   rw [h1, h2]
   simp only [if_true, Bool.false_eq_true, if_false]
   omega
  | false =>
   cases hD : D x with
   | true =>
    rw [kx hD]
    simp only [if_true, Bool.false_eq_true, if_false]
    omega
   | false =>
    simp only [Bool.false_eq_true, if_false]
    omega
theorem cardB_pos {n : Nat} {S : Nat → Bool} {i : Nat} (hi : i < n) (h : S i = true) : 0 < cardB n S := by
 unfold cardB
 rw [List.countP_pos_iff]
 exact ⟨i, List.mem_range.2 hi, h⟩
theorem cardB_ex {n : Nat} {S : Nat → Bool} (h : 0 < cardB n S) : ∃ i, i < n ∧ S i = true := by
 unfold cardB at h
 rw [List.countP_pos_iff] at h
 obtain ⟨i, hi, hs⟩ := h
 exact ⟨i, List.mem_range.1 hi, hs⟩
theorem cardB_one (n c : Nat) : cardB n (fun j => j == c) ≤ 1 := by
 have h := List.nodup_iff_count.1 (List.nodup_range (n := n)) c
 exact h
theorem cardB_le {n : Nat} {A B : Nat → Bool} (h : ∀ i, i < n → A i = true → B i = true) : cardB n A ≤ cardB n B := List.countP_mono_left fun i hi ha => h i (List.mem_range.1 hi) ha
def nbr (n : Nat) (P : Nat → Nat → Bool) (C S : Nat → Bool) (j : Nat) : Bool := C j && (List.range n).any fun i => S i && P i j
theorem nbr_iff {n : Nat} {P : Nat → Nat → Bool} {C S : Nat → Bool} {j : Nat} : nbr n P C S j = true ↔ C j = true ∧ ∃ i, i < n ∧ S i = true ∧ P i j = true := by
 unfold nbr
 simp only [Bool.and_eq_true, List.any_eq_true, List.mem_range]
theorem hall (n : Nat) (P : Nat → Nat → Bool) : ∀ (m : Nat) (R C : Nat → Bool), cardB n R ≤ m → (∀ S : Nat → Bool, (∀ i, i < n → S i = true → R i = true) → cardB n S ≤ cardB n (nbr n P C S)) → ∃ f : Nat → Nat, (∀ i, i < n → R i = true → f i < n ∧ C (f i) = true ∧ P i (f i) = true) ∧ ∀ i j, i < n → j < n → R i = true → R j = true → f i = f j → i = j
 | 0, R, C, hR, _ => by
  have hno : ∀ i, i < n → R i = true → False := fun i hi h => by have := cardB_pos hi h; omega
  exact ⟨id, fun i hi h => (hno i hi h).elim, fun i j hi _ h _ _ => (hno i hi h).elim⟩
 | m + 1, R, C, hR, hH => by
  by_cases hex : 0 < cardB n R
  · obtain ⟨r, hr, hRr⟩ := cardB_ex hex
    by_cases hB : ∃ S : Nat → Bool, (∀ i, i < n → S i = true → R i = true) ∧ 0 < cardB n S ∧ cardB n S < cardB n R ∧ cardB n (nbr n P C S) ≤ cardB n S
    · obtain ⟨S, hS, h0, h1, h2⟩ := hB
      obtain ⟨f1, a1, b1⟩ := hall n P m S C (by omega) (fun T hT => hH T (fun i hi h => hS i hi (hT i hi h)))
      have hsplit : cardB n (fun i => R i && !S i) + cardB n S ≤ cardB n R := countP_two R (fun i => R i && !S i) S (List.range n) (fun i _ h => by simp only [Bool.and_eq_true, Bool.not_eq_true'] at h; exact h) (fun i hi h => hS i (List.mem_range.1 hi) h)
      obtain ⟨f2, a2, b2⟩ := hall n P m (fun i => R i && !S i) (fun j => C j && !nbr n P C S j) (by omega) (fun T hT => by
       have hT' : ∀ i, i < n → T i = true → R i = true ∧ S i = false := fun i hi h => by have := hT i hi h; simp only [Bool.and_eq_true, Bool.not_eq_true'] at this; exact this
       have e1 : cardB n T + cardB n S ≤ cardB n (fun i => T i || S i) := countP_two (fun i => T i || S i) T S (List.range n) (fun i hi h => ⟨by simp [h], (hT' i (List.mem_range.1 hi) h).2⟩) (fun i _ h => by simp [h])
       have e2 := hH (fun i => T i || S i) (fun i hi h => by
        simp only [Bool.or_eq_true] at h
        rcases h with h | h
        · exact (hT' i hi h).1
        · exact hS i hi h)
       have e3 : cardB n (nbr n P C (fun i => T i || S i)) ≤ cardB n (nbr n P (fun j => C j && !nbr n P C S j) T) + cardB n (nbr n P C S) := countP_sub _ _ _ (List.range n) (fun j _ h => by
        obtain ⟨hc, i, hi, hs, hp⟩ := nbr_iff.1 h
        by_cases hn : nbr n P C S j = true
        · exact .inr hn
        · refine .inl (nbr_iff.2 ⟨by simp only [Bool.and_eq_true, Bool.not_eq_true']; exact ⟨hc, by simpa using hn⟩, i, hi, ?_, hp⟩)
          simp only [Bool.or_eq_true] at hs
          rcases hs with hs | hs
          · exact hs
          · exact (hn (nbr_iff.2 ⟨hc, i, hi, hs, hp⟩)).elim)
       omega)
      have q1 : ∀ i, i < n → S i = true → nbr n P C S (f1 i) = true := fun i hi h => by
       obtain ⟨_, hc, hp⟩ := a1 i hi h
       exact nbr_iff.2 ⟨hc, i, hi, h, hp⟩
      have q2 : ∀ i, i < n → R i = true → ¬ S i = true → f2 i < n ∧ C (f2 i) = true ∧ nbr n P C S (f2 i) = false ∧ P i (f2 i) = true := fun i hi h hs => by
       obtain ⟨u, v, w⟩ := a2 i hi (by simp only [Bool.and_eq_true, Bool.not_eq_true']; exact ⟨h, by simpa using hs⟩)
       simp only [Bool.and_eq_true, Bool.not_eq_true'] at v
       exact ⟨u, v.1, v.2, w⟩
      refine ⟨fun i => if S i = true then f1 i else f2 i, fun i hi h => ?_, fun i j hi hj h k e => ?_⟩
      · show (if S i = true then f1 i else f2 i) < n ∧ C (if S i = true then f1 i else f2 i) = true ∧ P i (if S i = true then f1 i else f2 i) = true
        by_cases hs : S i = true
        · rw [if_pos hs]
          exact a1 i hi hs
        · rw [if_neg hs]
          obtain ⟨u, v, _, w⟩ := q2 i hi h hs
          exact ⟨u, v, w⟩
      · simp only at e
        by_cases hs : S i = true
        · by_cases ht : S j = true
          · rw [if_pos hs, if_pos ht] at e
            exact b1 i j hi hj hs ht e
          · rw [if_pos hs, if_neg ht] at e
            have x1 := q1 i hi hs
            have x2 := (q2 j hj k ht).2.2.1
            rw [e, x2] at x1
            cases x1
        · by_cases ht : S j = true
          · rw [if_neg hs, if_pos ht] at e
            have x1 := q1 j hj ht
            have x2 := (q2 i hi h hs).2.2.1
            rw [← e, x2] at x1
            cases x1
          · rw [if_neg hs, if_neg ht] at e
            exact b2 i j hi hj (by simp only [Bool.and_eq_true, Bool.not_eq_true']; exact ⟨h, by simpa using hs⟩) (by simp only [Bool.and_eq_true, Bool.not_eq_true']; exact ⟨k, by simpa using ht⟩) e
    · have hA : ∀ T : Nat → Bool, (∀ i, i < n → T i = true → R i = true) → 0 < cardB n T → cardB n T < cardB n R → cardB n T + 1 ≤ cardB n (nbr n P C T) := fun T h1 h2 h3 => by
       have : ¬ cardB n (nbr n P C T) ≤ cardB n T := fun h4 => hB ⟨T, h1, h2, h3, h4⟩
       omega
      have hs1 : 0 < cardB n (fun i => i == r) := cardB_pos hr (by simp)
      have hN := hH (fun i => i == r) (fun i _ h => by
       have e : i = r := by simpa using h
       rw [e]
       exact hRr)
      obtain ⟨c, hc, hnc⟩ := cardB_ex (show 0 < cardB n (nbr n P C (fun i => i == r)) by omega)
      obtain ⟨hCc, i0, _, hi0, hP⟩ := nbr_iff.1 hnc
      have ei0 : i0 = r := by simpa using hi0
      subst ei0
      have hsplit : cardB n (fun i => R i && !(i == i0)) + cardB n (fun i => i == i0) ≤ cardB n R := countP_two R (fun i => R i && !(i == i0)) (fun i => i == i0) (List.range n) (fun i _ h => by simp only [Bool.and_eq_true, Bool.not_eq_true'] at h; exact h) (fun i _ h => by
       have e : i = i0 := by simpa using h
       rw [e]
       exact hRr)
      obtain ⟨f1, a1, b1⟩ := hall n P m (fun i => R i && !(i == i0)) (fun j => C j && !(j == c)) (by omega) (fun T hT => by
       by_cases ht0 : 0 < cardB n T
       · have hTR : ∀ i, i < n → T i = true → R i = true := fun i hi h => by have := hT i hi h; simp only [Bool.and_eq_true] at this; exact this.1
         have hle : cardB n T ≤ cardB n (fun i => R i && !(i == i0)) := cardB_le hT
         have g := hA T hTR ht0 (by omega)
         have e3 : cardB n (nbr n P C T) ≤ cardB n (nbr n P (fun j => C j && !(j == c)) T) + cardB n (fun j => j == c) := countP_sub _ _ _ (List.range n) (fun j _ h => by
          obtain ⟨hcj, i, hi, hs, hp⟩ := nbr_iff.1 h
          by_cases e : j = c
          · exact .inr (by simpa using e)
          · exact .inl (nbr_iff.2 ⟨by simp only [Bool.and_eq_true, Bool.not_eq_true']; exact ⟨hcj, by simpa using e⟩, i, hi, hs, hp⟩))
         have := cardB_one n c
         omega
       · omega)
      have q : ∀ i, i < n → R i = true → i ≠ i0 → f1 i < n ∧ C (f1 i) = true ∧ f1 i ≠ c ∧ P i (f1 i) = true := fun i hi h hne => by
       obtain ⟨u, v, w⟩ := a1 i hi (by simp only [Bool.and_eq_true, Bool.not_eq_true']; exact ⟨h, by simpa using hne⟩)
       simp only [Bool.and_eq_true, Bool.not_eq_true'] at v
       exact ⟨u, v.1, by simpa using v.2, w⟩
      refine ⟨fun i => if i = i0 then c else f1 i, fun i hi h => ?_, fun i j hi hj h k e => ?_⟩
      · show (if i = i0 then c else f1 i) < n ∧ C (if i = i0 then c else f1 i) = true ∧ P i (if i = i0 then c else f1 i) = true
        by_cases hs : i = i0
        · rw [if_pos hs, hs]
          exact ⟨hc, hCc, hP⟩
        · rw [if_neg hs]
          obtain ⟨u, v, _, w⟩ := q i hi h hs
          exact ⟨u, v, w⟩
      · simp only at e
        by_cases hs : i = i0
        · by_cases ht : j = i0
          · rw [hs, ht]
          · rw [if_pos hs, if_neg ht] at e
            exact ((q j hj k ht).2.2.1 e.symm).elim
        · by_cases ht : j = i0
          · rw [if_neg hs, if_pos ht] at e
            exact ((q i hi h hs).2.2.1 e).elim
          · rw [if_neg hs, if_neg ht] at e
            exact b1 i j hi hj (by simp only [Bool.and_eq_true, Bool.not_eq_true']; exact ⟨h, by simpa using hs⟩) (by simp only [Bool.and_eq_true, Bool.not_eq_true']; exact ⟨k, by simpa using ht⟩) e
  · have hno : ∀ i, i < n → R i = true → False := fun i hi h => hex (cardB_pos hi h)
    exact ⟨id, fun i hi h => (hno i hi h).elim, fun i j hi _ h _ _ => (hno i hi h).elim⟩
/-- A placing, or rows that refuse one. -/
theorem hall_or (n : Nat) (P : Nat → Nat → Bool) : (∃ f : Nat → Nat, (∀ i, i < n → f i < n ∧ P i (f i) = true) ∧ ∀ i j, i < n → j < n → f i = f j → i = j) ∨ ∃ S : Nat → Bool, cardB n (nbr n P (fun _ => true) S) < cardB n S := by
 by_cases h : ∀ S : Nat → Bool, cardB n S ≤ cardB n (nbr n P (fun _ => true) S)
 · obtain ⟨f, a, b⟩ := hall n P (cardB n (fun _ => true)) (fun _ => true) (fun _ => true) (Nat.le_refl _) (fun S _ => h S)
   exact .inl ⟨f, fun i hi => ⟨(a i hi rfl).1, (a i hi rfl).2.2⟩, fun i j hi hj e => b i j hi hj rfl rfl e⟩
 · obtain ⟨S, hS⟩ := Classical.not_forall.1 h
   exact .inr ⟨S, by omega⟩
end Go.Proofs.Ytkhpojcplejdjaa.A

/- What the world behind slices.SortFunc says in the words of rows: numbers and worlds alone, no program. -/
namespace Go.Proofs.Ytkhpojcplejdjaa.A
open Go.RowKit Go.Proofs.YtkhpojcplejdjaaW.PrintWords Go.Proofs.YtkhpojcplejdjaaW.PrintLast Go.Proofs.YtkhpojcplejdjaaW.PrintMore
attribute [local go_sem] max2_int min2_int max_two min_two max_three min_three max_four min_four
set_option linter.unusedVariables false
set_option linter.unusedSimpArgs false

open Go.Shelf Go.Lib Go.Sort
end Go.Proofs.Ytkhpojcplejdjaa.A

/-
  DERIVED: THE SHELF's CONTRACTS AT THIS DUMP, IN PLAIN WORDS (tools/lay-plain.mjs out of 'YtkhpojcplejdjaaShelf.lean', which tools/lay-shelf.mjs wrote): THE SAME DECLARATIONS UNDER THE SAME NAMES: 'import', 'namespace', 'open', 'def', 'theorem' AND NOTHING ELSE: no command of the shelf's: FOR A HAND-IN. Each laying: the table of numbers ('.._ren') and one theorem, a field a fact of the dump's own or the kernel's comparison; each contract: ONE APPLICATION.
-/
namespace Go.Proofs
open Go.Shelf
end Go.Proofs

/- ranking: the numbers of a list, the greatest ones first: slices.Clone and slices.SortFunc by their contracts. -/
namespace Go.Proofs.Ytkhpojcplejdjaa.A
open Go.RowKit Go.Proofs.YtkhpojcplejdjaaW.PrintWords Go.Proofs.YtkhpojcplejdjaaW.PrintLast Go.Proofs.YtkhpojcplejdjaaW.PrintMore
attribute [local go_sem] max2_int min2_int max_two min_two max_three min_three max_four min_four
set_option linter.unusedVariables false
set_option linter.unusedSimpArgs false

open Go.Shelf Go.Lib Go.Sort
abbrev SmallI : Type := { x : Int // 0 ≤ x ∧ x ≤ 1000000 }
instance : Inhabited SmallI := ⟨⟨0, by omega, by omega⟩⟩
end Go.Proofs.Ytkhpojcplejdjaa.A

-- made by a program of this repo (wip/pp.py) through the kit's printer
namespace Go.Proofs.Ytkhpojcplejdjaa.A
open Go.RowKit Go.Proofs.YtkhpojcplejdjaaW.PrintWords Go.Proofs.YtkhpojcplejdjaaW.PrintLast Go.Proofs.YtkhpojcplejdjaaW.PrintMore
attribute [local go_sem] max2_int min2_int max_two min_two max_three min_three max_four min_four
set_option linter.unusedVariables false
set_option linter.unusedSimpArgs false

end Go.Proofs.Ytkhpojcplejdjaa.A

-- made by a program of this repo (wip/pp.py) through the kit's printer
namespace Go.Proofs.Ytkhpojcplejdjaa.A
open Go.RowKit Go.Proofs.YtkhpojcplejdjaaW.PrintWords Go.Proofs.YtkhpojcplejdjaaW.PrintLast Go.Proofs.YtkhpojcplejdjaaW.PrintMore
attribute [local go_sem] max2_int min2_int max_two min_two max_three min_three max_four min_four
set_option linter.unusedVariables false
set_option linter.unusedSimpArgs false

end Go.Proofs.Ytkhpojcplejdjaa.A

namespace Go.Proofs.Ytkhpojcplejdjaa.A
open Go.RowKit Go.Proofs.YtkhpojcplejdjaaW.PrintWords Go.Proofs.YtkhpojcplejdjaaW.PrintLast Go.Proofs.YtkhpojcplejdjaaW.PrintMore
set_option linter.unusedVariables false
set_option linter.unusedSimpArgs false
end Go.Proofs.Ytkhpojcplejdjaa.A

namespace Go.Proofs.Ytkhpojcplejdjaa.A
open Go.RowKit Go.Proofs.YtkhpojcplejdjaaW.PrintWords Go.Proofs.YtkhpojcplejdjaaW.PrintLast Go.Proofs.YtkhpojcplejdjaaW.PrintMore
set_option linter.unusedVariables false
set_option linter.unusedSimpArgs false
end Go.Proofs.Ytkhpojcplejdjaa.A

-- made by a program of this repo (wip/pp.py) through the kit's printer
namespace Go.Proofs.Ytkhpojcplejdjaa.A
open Go.RowKit Go.Proofs.YtkhpojcplejdjaaW.PrintWords Go.Proofs.YtkhpojcplejdjaaW.PrintLast Go.Proofs.YtkhpojcplejdjaaW.PrintMore
attribute [local go_sem] max2_int min2_int max_two min_two max_three min_three max_four min_four
set_option linter.unusedVariables false
set_option linter.unusedSimpArgs false

end Go.Proofs.Ytkhpojcplejdjaa.A

-- made by a program of this repo (wip/pp.py) through the kit's printer
namespace Go.Proofs.Ytkhpojcplejdjaa.A
open Go.RowKit Go.Proofs.YtkhpojcplejdjaaW.PrintWords Go.Proofs.YtkhpojcplejdjaaW.PrintLast Go.Proofs.YtkhpojcplejdjaaW.PrintMore
attribute [local go_sem] max2_int min2_int max_two min_two max_three min_three max_four min_four
set_option linter.unusedVariables false
set_option linter.unusedSimpArgs false

/-! ### spec_liRank: function 81 -/
mutual
def spec_liRank.l0 : Nat → List Int → List Int → Int → Int → Option (List Int)
 | 0, _, _, _, _ => none
 | k + 1, x3, x7, x8, x9 => if x9 < x8 then (if 0 ≤ x9 then (if x9 < (x7.length : Int) then (spec_liRank.l1 k x3 (rd x7 x9) 0 x7 x8 x9) else (none)) else (none)) else (some x3)
def spec_liRank.l1 : Nat → List Int → Int → Int → List Int → Int → Int → Option (List Int)
 | 0, _, _, _, _, _, _ => none
 | k + 1, x3, x5, x6, x7, x8, x9 => if x6 < (x3.length : Int) then (if 0 ≤ x6 then (if (rd x3 x6) ≥ x5 then (spec_liRank.l1 k x3 x5 (wrap64 (x6 + 1)) x7 x8 x9) else (if x6 ≤ (x3.length : Int) then ((spec_l1Own.f (x3.take (x6 : Int).toNat)).bind fun t662 => ((some (([x5] : List Int) : List Int)).bind fun y665 => (if t662.length + y665.length < 17592186044416 then ((some (t662 ++ y665 : List Int)).bind fun y668 => ((some (x3.drop (x6 : Int).toNat : List Int)).bind fun y671 => (if y668.length + y671.length < 17592186044416 then (spec_liRank.l0 k (y668 ++ y671) x7 x8 (wrap64 (x9 + 1))) else (none)))) else (none)))) else (none))) else (none)) else (if 0 ≤ x6 then (if x6 ≤ (x3.length : Int) then ((spec_l1Own.f (x3.take (x6 : Int).toNat)).bind fun t682 => ((some (([x5] : List Int) : List Int)).bind fun y685 => (if t682.length + y685.length < 17592186044416 then ((some (t682 ++ y685 : List Int)).bind fun y688 => ((some (x3.drop (x6 : Int).toNat : List Int)).bind fun y691 => (if y688.length + y691.length < 17592186044416 then (spec_liRank.l0 k (y688 ++ y691) x7 x8 (wrap64 (x9 + 1))) else (none)))) else (none)))) else (none)) else (none))
end
end Go.Proofs.Ytkhpojcplejdjaa.A

-- made by a program of this repo (wip/pp.py) through the kit's printer
namespace Go.Proofs.Ytkhpojcplejdjaa.A
open Go.RowKit Go.Proofs.YtkhpojcplejdjaaW.PrintWords Go.Proofs.YtkhpojcplejdjaaW.PrintLast Go.Proofs.YtkhpojcplejdjaaW.PrintMore
attribute [local go_sem] max2_int min2_int max_two min_two max_three min_three max_four min_four
set_option linter.unusedVariables false
set_option linter.unusedSimpArgs false

end Go.Proofs.Ytkhpojcplejdjaa.A

-- made by a program of this repo (wip/pp.py) through the kit's printer
namespace Go.Proofs.Ytkhpojcplejdjaa.A
open Go.RowKit Go.Proofs.YtkhpojcplejdjaaW.PrintWords Go.Proofs.YtkhpojcplejdjaaW.PrintLast Go.Proofs.YtkhpojcplejdjaaW.PrintMore
attribute [local go_sem] max2_int min2_int max_two min_two max_three min_three max_four min_four
set_option linter.unusedVariables false
set_option linter.unusedSimpArgs false

end Go.Proofs.Ytkhpojcplejdjaa.A

-- made by a program of this repo (wip/pp.py) through the kit's printer
namespace Go.Proofs.Ytkhpojcplejdjaa.A
open Go.RowKit Go.Proofs.YtkhpojcplejdjaaW.PrintWords Go.Proofs.YtkhpojcplejdjaaW.PrintLast Go.Proofs.YtkhpojcplejdjaaW.PrintMore
attribute [local go_sem] max2_int min2_int max_two min_two max_three min_three max_four min_four
set_option linter.unusedVariables false
set_option linter.unusedSimpArgs false

end Go.Proofs.Ytkhpojcplejdjaa.A

-- made by a program of this repo (wip/pp.py) through the kit's printer
namespace Go.Proofs.Ytkhpojcplejdjaa.A
open Go.RowKit Go.Proofs.YtkhpojcplejdjaaW.PrintWords Go.Proofs.YtkhpojcplejdjaaW.PrintLast Go.Proofs.YtkhpojcplejdjaaW.PrintMore
attribute [local go_sem] max2_int min2_int max_two min_two max_three min_three max_four min_four
set_option linter.unusedVariables false
set_option linter.unusedSimpArgs false

end Go.Proofs.Ytkhpojcplejdjaa.A

-- made by a program of this repo (wip/pp.py) through the kit's printer
namespace Go.Proofs.Ytkhpojcplejdjaa.A
open Go.RowKit Go.Proofs.YtkhpojcplejdjaaW.PrintWords Go.Proofs.YtkhpojcplejdjaaW.PrintLast Go.Proofs.YtkhpojcplejdjaaW.PrintMore
attribute [local go_sem] max2_int min2_int max_two min_two max_three min_three max_four min_four
set_option linter.unusedVariables false
set_option linter.unusedSimpArgs false

end Go.Proofs.Ytkhpojcplejdjaa.A

-- made by a program of this repo (wip/pp.py) through the kit's printer
namespace Go.Proofs.Ytkhpojcplejdjaa.A
open Go.RowKit Go.Proofs.YtkhpojcplejdjaaW.PrintWords Go.Proofs.YtkhpojcplejdjaaW.PrintLast Go.Proofs.YtkhpojcplejdjaaW.PrintMore
attribute [local go_sem] max2_int min2_int max_two min_two max_three min_three max_four min_four
set_option linter.unusedVariables false
set_option linter.unusedSimpArgs false

end Go.Proofs.Ytkhpojcplejdjaa.A

-- made by a program of this repo (wip/pp.py) through the kit's printer
namespace Go.Proofs.Ytkhpojcplejdjaa.A
open Go.RowKit Go.Proofs.YtkhpojcplejdjaaW.PrintWords Go.Proofs.YtkhpojcplejdjaaW.PrintLast Go.Proofs.YtkhpojcplejdjaaW.PrintMore
attribute [local go_sem] max2_int min2_int max_two min_two max_three min_three max_four min_four
set_option linter.unusedVariables false
set_option linter.unusedSimpArgs false

end Go.Proofs.Ytkhpojcplejdjaa.A

-- made by a program of this repo (wip/pp.py) through the kit's printer
namespace Go.Proofs.Ytkhpojcplejdjaa.A
open Go.RowKit Go.Proofs.YtkhpojcplejdjaaW.PrintWords Go.Proofs.YtkhpojcplejdjaaW.PrintLast Go.Proofs.YtkhpojcplejdjaaW.PrintMore
attribute [local go_sem] max2_int min2_int max_two min_two max_three min_three max_four min_four
set_option linter.unusedVariables false
set_option linter.unusedSimpArgs false

end Go.Proofs.Ytkhpojcplejdjaa.A

namespace Go.Proofs.Ytkhpojcplejdjaa.A
open Go.RowKit Go.Proofs.YtkhpojcplejdjaaW.PrintWords Go.Proofs.YtkhpojcplejdjaaW.PrintLast Go.Proofs.YtkhpojcplejdjaaW.PrintMore
set_option linter.unusedVariables false
set_option linter.unusedSimpArgs false
theorem l1Own_eq (l : List Int) (hx : l.length ≤ 1048576) : spec_l1Own.f l = some l := by
 unfold spec_l1Own.f
 simp only [Option.bind_some, List.nil_append, List.length_nil, Nat.zero_add, if_pos (show l.length < 17592186044416 by omega)]
end Go.Proofs.Ytkhpojcplejdjaa.A

namespace Go.Proofs.Ytkhpojcplejdjaa.A
open Go.RowKit Go.Proofs.YtkhpojcplejdjaaW.PrintWords Go.Proofs.YtkhpojcplejdjaaW.PrintLast Go.Proofs.YtkhpojcplejdjaaW.PrintMore
set_option linter.unusedVariables false
set_option linter.unusedSimpArgs false
end Go.Proofs.Ytkhpojcplejdjaa.A

namespace Go.Proofs.Ytkhpojcplejdjaa.A
open Go.RowKit Go.Proofs.YtkhpojcplejdjaaW.PrintWords Go.Proofs.YtkhpojcplejdjaaW.PrintLast Go.Proofs.YtkhpojcplejdjaaW.PrintMore
set_option linter.unusedVariables false
set_option linter.unusedSimpArgs false
end Go.Proofs.Ytkhpojcplejdjaa.A

-- made by a program of this repo (wip/pp.py) through the kit's printer
namespace Go.Proofs.Ytkhpojcplejdjaa.A
open Go.RowKit Go.Proofs.YtkhpojcplejdjaaW.PrintWords Go.Proofs.YtkhpojcplejdjaaW.PrintLast Go.Proofs.YtkhpojcplejdjaaW.PrintMore
attribute [local go_sem] max2_int min2_int max_two min_two max_three min_three max_four min_four
set_option linter.unusedVariables false
set_option linter.unusedSimpArgs false

end Go.Proofs.Ytkhpojcplejdjaa.A

namespace Go.Proofs.Ytkhpojcplejdjaa.A
open Go.RowKit Go.Proofs.YtkhpojcplejdjaaW.PrintWords Go.Proofs.YtkhpojcplejdjaaW.PrintLast Go.Proofs.YtkhpojcplejdjaaW.PrintMore
set_option linter.unusedVariables false
set_option linter.unusedSimpArgs false
end Go.Proofs.Ytkhpojcplejdjaa.A

namespace Go.Proofs.Ytkhpojcplejdjaa.A
open Go.RowKit Go.Proofs.YtkhpojcplejdjaaW.PrintWords Go.Proofs.YtkhpojcplejdjaaW.PrintLast Go.Proofs.YtkhpojcplejdjaaW.PrintMore
set_option linter.unusedVariables false
set_option linter.unusedSimpArgs false
end Go.Proofs.Ytkhpojcplejdjaa.A

namespace Go.Proofs.Ytkhpojcplejdjaa.A
open Go.RowKit Go.Proofs.YtkhpojcplejdjaaW.PrintWords Go.Proofs.YtkhpojcplejdjaaW.PrintLast Go.Proofs.YtkhpojcplejdjaaW.PrintMore
set_option linter.unusedVariables false
set_option linter.unusedSimpArgs false
theorem least_lt (P : Nat → Prop) (n : Nat) : (∃ k, k < n ∧ P k) → ∃ j, j < n ∧ P j ∧ ∀ k, k < j → ¬ P k := by
 induction n with
 | zero => rintro ⟨k, hk, _⟩; omega
 | succ n ih =>
  rintro ⟨k, hk, hp⟩
  by_cases h : ∃ k, k < n ∧ P k
  · obtain ⟨j, h1, h2, h3⟩ := ih h
    exact ⟨j, by omega, h2, h3⟩
  · refine ⟨k, hk, hp, fun q hq hpq => h ⟨q, by omega, hpq⟩⟩
end Go.Proofs.Ytkhpojcplejdjaa.A

-- made by a program of this repo (wip/pp.py) through the kit's printer
namespace Go.Proofs.Ytkhpojcplejdjaa.A
open Go.RowKit Go.Proofs.YtkhpojcplejdjaaW.PrintWords Go.Proofs.YtkhpojcplejdjaaW.PrintLast Go.Proofs.YtkhpojcplejdjaaW.PrintMore
attribute [local go_sem] max2_int min2_int max_two min_two max_three min_three max_four min_four
set_option linter.unusedVariables false
set_option linter.unusedSimpArgs false

/-! ### spec_doIf: function 57 -/
def spec_doIf.f (k : Nat) (l0 : List (List Int)) : Option ((List (List Int)) × Bool) := (spec_doGood.f k l0).bind fun t316 => (if t316 = true then (some (l0, true)) else (some (([] : List (List Int)), false)))
end Go.Proofs.Ytkhpojcplejdjaa.A

-- made by a program of this repo (wip/pp.py) through the kit's printer
namespace Go.Proofs.Ytkhpojcplejdjaa.A
open Go.RowKit Go.Proofs.YtkhpojcplejdjaaW.PrintWords Go.Proofs.YtkhpojcplejdjaaW.PrintLast Go.Proofs.YtkhpojcplejdjaaW.PrintMore
attribute [local go_sem] max2_int min2_int max_two min_two max_three min_three max_four min_four
set_option linter.unusedVariables false
set_option linter.unusedSimpArgs false

/-! ### spec_AddTables: function 22 -/
mutual
def spec_AddTables.j0 : Nat → List (List Int) → List (List Int) → Bool → Option ((List (List Int)) × Bool)
 | 0, _, _, _ => none
 | k + 1, x0, x1, x23 => if x23 = true then (some (([] : List (List Int)), false)) else ((spec_doEmpty.f k (x0.length : Int)).bind fun t340 => (spec_AddTables.l0 k x0 x1 t340 (x0.length : Int) 0))
def spec_AddTables.l0 : Nat → List (List Int) → List (List Int) → List (List Int) → Int → Int → Option ((List (List Int)) × Bool)
 | 0, _, _, _, _, _ => none
 | k + 1, x0, x1, x6, x28, x29 => if x29 < x28 then (spec_AddTables.l1 k x0 x1 x6 x29 x28 x29 (x0.length : Int) 0) else ((spec_doIf.f k x6).bind fun bt343 => (some (bt343.1, bt343.2)))
def spec_AddTables.l1 : Nat → List (List Int) → List (List Int) → List (List Int) → Int → Int → Int → Int → Int → Option ((List (List Int)) × Bool)
 | 0, _, _, _, _, _, _, _, _ => none
 | k + 1, x0, x1, x6, x7, x28, x29, x33, x34 => if x34 < x33 then (if 0 ≤ x7 then (if x7 < (x6.length : Int) then (if x7 < (x0.length : Int) then (if 0 ≤ x34 then (if x34 < ((rd_L1 x0 x7).length : Int) then (if x7 < (x1.length : Int) then (if x34 < ((rd_L1 x1 x7).length : Int) then (if x34 < ((rd_L1 x6 x7).length : Int) then (spec_AddTables.l1 k x0 x1 (x6.set (x7 : Int).toNat ((rd_L1 x6 x7).set (x34 : Int).toNat (wrap64 ((rd (rd_L1 x0 x7) x34) + (rd (rd_L1 x1 x7) x34))))) x7 x28 x29 x33 (wrap64 (x34 + 1))) else (none)) else (none)) else (none)) else (none)) else (none)) else (none)) else (none)) else (none)) else (spec_AddTables.l0 k x0 x1 x6 x28 (wrap64 (x29 + 1)))
end
end Go.Proofs.Ytkhpojcplejdjaa.A

-- made by a program of this repo (wip/pp.py) through the kit's printer
namespace Go.Proofs.Ytkhpojcplejdjaa.A
open Go.RowKit Go.Proofs.YtkhpojcplejdjaaW.PrintWords Go.Proofs.YtkhpojcplejdjaaW.PrintLast Go.Proofs.YtkhpojcplejdjaaW.PrintMore
attribute [local go_sem] max2_int min2_int max_two min_two max_three min_three max_four min_four
set_option linter.unusedVariables false
set_option linter.unusedSimpArgs false

end Go.Proofs.Ytkhpojcplejdjaa.A

/- AddTables: the sums, by a function that has captured both tables. -/
namespace Go.Proofs.Ytkhpojcplejdjaa.A
open Go.RowKit Go.Proofs.YtkhpojcplejdjaaW.PrintWords Go.Proofs.YtkhpojcplejdjaaW.PrintLast Go.Proofs.YtkhpojcplejdjaaW.PrintMore
attribute [local go_sem] max2_int min2_int max_two min_two max_three min_three max_four min_four
set_option linter.unusedVariables false
set_option linter.unusedSimpArgs false

end Go.Proofs.Ytkhpojcplejdjaa.A

namespace Go.Proofs.Ytkhpojcplejdjaa.A
open Go.RowKit Go.Proofs.YtkhpojcplejdjaaW.PrintWords Go.Proofs.YtkhpojcplejdjaaW.PrintLast Go.Proofs.YtkhpojcplejdjaaW.PrintMore
set_option linter.unusedVariables false
set_option linter.unusedSimpArgs false
/-! tables told by a function of row and column -/
def tabG (n : Nat) (G : Nat → Nat → Int) : List (List Int) := (List.range n).map fun i => (List.range n).map fun j => G i j
theorem tabG_length (n : Nat) (G : Nat → Nat → Int) : (tabG n G).length = n := by simp [tabG]
theorem tabG_get {n : Nat} {G : Nat → Nat → Int} {i : Nat} (h : i < (tabG n G).length) : (tabG n G)[i] = (List.range n).map fun j => G i j := by simp [tabG]
theorem tabG_row {n : Nat} (G : Nat → Nat → Int) {i : Nat} (h : i < n) : rd_L1 (tabG n G) (i : Int) = (List.range n).map fun j => G i j := by
 rw [rd_L1n (by rw [tabG_length]; exact h), tabG_get]
theorem tabG_rowlen {n : Nat} (G : Nat → Nat → Int) {i : Nat} (h : i < n) : (rd_L1 (tabG n G) (i : Int)).length = n := by rw [tabG_row G h]; simp
theorem rowG_at {n : Nat} (g : Nat → Int) {j : Nat} (h : j < n) : rd ((List.range n).map g) (j : Int) = g j := by
 rw [rdn (by simpa using h)]
 simp
theorem tabG_at {n : Nat} (G : Nat → Nat → Int) {i j : Nat} (h : i < n) (h' : j < n) : rd (rd_L1 (tabG n G) (i : Int)) (j : Int) = G i j := by rw [tabG_row G h, rowG_at _ h']
theorem tabG_congr {n : Nat} {G G' : Nat → Nat → Int} (h : ∀ i j, i < n → j < n → G i j = G' i j) : tabG n G = tabG n G' := by
 unfold tabG
 refine List.map_congr_left fun i hi => List.map_congr_left fun j hj => h i j (List.mem_range.1 hi) (List.mem_range.1 hj)
def updG (G : Nat → Nat → Int) (i j : Nat) (v : Int) : Nat → Nat → Int := fun a b => if a = i ∧ b = j then v else G a b
theorem rowG_set {n : Nat} (g : Nat → Int) (j : Nat) (v : Int) : ((List.range n).map g).set j v = (List.range n).map fun b => if b = j then v else g b := by
 apply List.ext_getElem
 · simp
 · intro k h1 h2
   simp only [List.length_map, List.length_range, List.length_set] at h1 h2
   rw [List.getElem_set]
   by_cases e : j = k
   · subst e
     simp
   · have e' : ¬ k = j := fun h => e h.symm
     simp [e, e']
theorem tabG_set {n : Nat} (G : Nat → Nat → Int) {i : Nat} (j : Nat) (v : Int) (h : i < n) : (tabG n G).set i ((rd_L1 (tabG n G) (i : Int)).set j v) = tabG n (updG G i j v) := by
 rw [tabG_row G h, rowG_set]
 apply List.ext_getElem
 · simp [tabG]
 · intro k h1 h2
   rw [List.length_set, tabG_length] at h1
   rw [List.getElem_set, tabG_get, tabG_get]
   by_cases e : i = k
   · subst e
     rw [if_pos rfl]
     refine List.map_congr_left fun b _ => ?_
     unfold updG
     by_cases e2 : b = j <;> simp [e2]
   · rw [if_neg e]
     refine List.map_congr_left fun b _ => ?_
     unfold updG
     rw [if_neg (fun h => e h.1.symm)]
theorem tabG_zero (n : Nat) : List.replicate n (List.replicate n (0 : Int)) = tabG n (fun _ _ => 0) := by
 unfold tabG
 apply List.ext_getElem
 · simp
 · intro k h1 h2
   simp only [List.getElem_replicate, List.getElem_map]
   apply List.ext_getElem
   · simp
   · intro k h1 h2
     simp
def atG (l : List (List Int)) (i j : Nat) : Int := rd (rd_L1 l (i : Int)) (j : Int)
theorem tabG_self {l : List (List Int)} (h : ∀ x ∈ l, x.length = l.length) : tabG l.length (atG l) = l := by
 apply List.ext_getElem
 · rw [tabG_length]
 · intro i h1 h2
   rw [tabG_get]
   have hl := h _ (List.getElem_mem h2)
   apply List.ext_getElem
   · simp [hl]
   · intro j h3 h4
     simp only [List.getElem_map, List.getElem_range]
     unfold atG
     rw [rd_L1n h2, rdn h4]
theorem atG_tab {n : Nat} (G : Nat → Nat → Int) {i j : Nat} (h : i < n) (h' : j < n) : atG (tabG n G) i j = G i j := tabG_at G h h'
end Go.Proofs.Ytkhpojcplejdjaa.A

namespace Go.Proofs.Ytkhpojcplejdjaa.A
open Go.RowKit Go.Proofs.YtkhpojcplejdjaaW.PrintWords Go.Proofs.YtkhpojcplejdjaaW.PrintLast Go.Proofs.YtkhpojcplejdjaaW.PrintMore
set_option linter.unusedVariables false
set_option linter.unusedSimpArgs false
theorem atG_bd {l : List (List Int)} (h : Tab l) {i j : Nat} (hi : i < l.length) (hj : j < l.length) : 0 ≤ atG l i j ∧ atG l i j ≤ 1000000 := by
 unfold atG
 rw [rd_L1n hi]
 exact tab_rd h (List.getElem_mem hi) hj
theorem tab_rowlen {l : List (List Int)} (h : Tab l) {i : Nat} (hi : i < l.length) : (rd_L1 l (i : Int)).length = l.length := by
 rw [rd_L1n hi]
 exact (h.row _ (List.getElem_mem hi)).1
end Go.Proofs.Ytkhpojcplejdjaa.A

namespace Go.Proofs.Ytkhpojcplejdjaa.A
open Go.RowKit Go.Proofs.YtkhpojcplejdjaaW.PrintWords Go.Proofs.YtkhpojcplejdjaaW.PrintLast Go.Proofs.YtkhpojcplejdjaaW.PrintMore
set_option linter.unusedVariables false
set_option linter.unusedSimpArgs false
theorem doEmpty_l (n : Nat) (hn : n ≤ 1000) : ∀ (m i : Nat), i + m = n → Ev (fun k => spec_doEmpty.l0 k (n : Int) (List.replicate i (List.replicate n 0)) (i : Int)) (tabG n fun _ _ => 0)
 | 0, i, e => by
  have ei : i = n := by omega
  subst ei
  refine Ev.succ ?_
  simp only [spec_doEmpty.l0, if_neg (show ¬ (i : Int) < (i : Int) by omega)]
  rw [tabG_zero]
  exact Ev.now _
 | m + 1, i, e => by
  refine Ev.succ ?_
  have hi : i < n := by omega
  simp only [spec_doEmpty.l0, if_pos (show (i : Int) < (n : Int) by omega), if_pos (show (0 : Int) ≤ (n : Int) by omega), Int.toNat_natCast, if_pos (show n ≤ 35184372088832 by omega), List.length_replicate, if_pos (show i < 5864062014805 by omega), wsucc hi (by omega)]
  have := doEmpty_l n hn m (i + 1) (by omega)
  rw [List.replicate_succ'] at this
  exact this
theorem doEmpty_ev (n : Nat) (hn : n ≤ 1000) : Ev (fun k => spec_doEmpty.f k (n : Int)) (tabG n fun _ _ => 0) := by
 unfold spec_doEmpty.f
 exact doEmpty_l n hn n 0 (by omega)
end Go.Proofs.Ytkhpojcplejdjaa.A

namespace Go.Proofs.Ytkhpojcplejdjaa.A
open Go.RowKit Go.Proofs.YtkhpojcplejdjaaW.PrintWords Go.Proofs.YtkhpojcplejdjaaW.PrintLast Go.Proofs.YtkhpojcplejdjaaW.PrintMore
set_option linter.unusedVariables false
set_option linter.unusedSimpArgs false
/-! square, doEmpty: what they make -/
theorem square_l1 (F : Int → Int → Option Int) (G : Nat → Nat → Int) (n : Nat) (hn : n ≤ 1000) (hF : ∀ i j, i < n → j < n → F (i : Int) (j : Int) = some (G i j)) (i : Nat) (hi : i < n) (X : List (List Int)) {r : List (List Int)} (hr : Ev (fun k => if X.length < 5864062014805 then impl_square.l0 F k (n : Int) (X ++ [(List.range n).map fun j => G i j]) (n : Int) ((i + 1 : Nat) : Int) else none) r) : ∀ (m j : Nat), j + m = n → Ev (fun k => impl_square.l1 F k (n : Int) X (i : Int) ((List.range j).map fun j => G i j) (n : Int) (i : Int) (n : Int) (j : Int)) r
 | 0, j, e => by
  have ej : j = n := by omega
  subst ej
  refine Ev.succ ?_
  simp only [impl_square.l1, if_neg (show ¬ (j : Int) < (j : Int) by omega), wsucc hi (by omega)]
  exact hr
 | m + 1, j, e => by
  refine Ev.succ ?_
  have hj : j < n := by omega
  simp only [impl_square.l1, if_pos (show (j : Int) < (n : Int) by omega), hF i j hi hj, Option.bind_some, List.length_map, List.length_range, if_pos (show j < 17592186044416 by omega), wsucc hj (by omega)]
  have := square_l1 F G n hn hF i hi X hr m (j + 1) (by omega)
  rw [List.range_succ, List.map_append] at this
  exact this
theorem square_l0 (F : Int → Int → Option Int) (G : Nat → Nat → Int) (n : Nat) (hn : n ≤ 1000) (hF : ∀ i j, i < n → j < n → F (i : Int) (j : Int) = some (G i j)) : ∀ (m i : Nat), i + m = n → Ev (fun k => impl_square.l0 F k (n : Int) ((List.range i).map fun i => (List.range n).map fun j => G i j) (n : Int) (i : Int)) (tabG n G)
 | 0, i, e => by
  have ei : i = n := by omega
  subst ei
  refine Ev.succ ?_
  simp only [impl_square.l0, if_neg (show ¬ (i : Int) < (i : Int) by omega)]
  exact Ev.now _
 | m + 1, i, e => by
  refine Ev.succ ?_
  have hi : i < n := by omega
  simp only [impl_square.l0, if_pos (show (i : Int) < (n : Int) by omega)]
  refine square_l1 F G n hn hF i hi _ ?_ n 0 (by omega)
  simp only [List.length_map, List.length_range, if_pos (show i < 5864062014805 by omega)]
  have := square_l0 F G n hn hF m (i + 1) (by omega)
  rw [List.range_succ, List.map_append] at this
  exact this
theorem square_ev (F : Int → Int → Option Int) (G : Nat → Nat → Int) (n : Nat) (hn : n ≤ 1000) (hF : ∀ i j, i < n → j < n → F (i : Int) (j : Int) = some (G i j)) : Ev (fun k => impl_square.f F k (n : Int)) (tabG n G) := by
 unfold impl_square.f
 exact square_l0 F G n hn hF n 0 (by omega)
end Go.Proofs.Ytkhpojcplejdjaa.A

namespace Go.Proofs.Ytkhpojcplejdjaa.A
open Go.RowKit Go.Proofs.YtkhpojcplejdjaaW.PrintWords Go.Proofs.YtkhpojcplejdjaaW.PrintLast Go.Proofs.YtkhpojcplejdjaaW.PrintMore
set_option linter.unusedVariables false
set_option linter.unusedSimpArgs false
end Go.Proofs.Ytkhpojcplejdjaa.A

/- giftTable: the table of a gift, by a function that has captured four numbers. -/
namespace Go.Proofs.Ytkhpojcplejdjaa.A
open Go.RowKit Go.Proofs.YtkhpojcplejdjaaW.PrintWords Go.Proofs.YtkhpojcplejdjaaW.PrintLast Go.Proofs.YtkhpojcplejdjaaW.PrintMore
attribute [local go_sem] max2_int min2_int max_two min_two max_three min_three max_four min_four
set_option linter.unusedVariables false
set_option linter.unusedSimpArgs false

end Go.Proofs.Ytkhpojcplejdjaa.A

-- made by a program of this repo (wip/pp.py) through the kit's printer
namespace Go.Proofs.Ytkhpojcplejdjaa.A
open Go.RowKit Go.Proofs.YtkhpojcplejdjaaW.PrintWords Go.Proofs.YtkhpojcplejdjaaW.PrintLast Go.Proofs.YtkhpojcplejdjaaW.PrintMore
attribute [local go_sem] max2_int min2_int max_two min_two max_three min_three max_four min_four
set_option linter.unusedVariables false
set_option linter.unusedSimpArgs false

end Go.Proofs.Ytkhpojcplejdjaa.A

-- made by a program of this repo (wip/pp.py) through the kit's printer
namespace Go.Proofs.Ytkhpojcplejdjaa.A
open Go.RowKit Go.Proofs.YtkhpojcplejdjaaW.PrintWords Go.Proofs.YtkhpojcplejdjaaW.PrintLast Go.Proofs.YtkhpojcplejdjaaW.PrintMore
attribute [local go_sem] max2_int min2_int max_two min_two max_three min_three max_four min_four
set_option linter.unusedVariables false
set_option linter.unusedSimpArgs false

end Go.Proofs.Ytkhpojcplejdjaa.A

-- made by a program of this repo (wip/pp.py) through the kit's printer
namespace Go.Proofs.Ytkhpojcplejdjaa.A
open Go.RowKit Go.Proofs.YtkhpojcplejdjaaW.PrintWords Go.Proofs.YtkhpojcplejdjaaW.PrintLast Go.Proofs.YtkhpojcplejdjaaW.PrintMore
attribute [local go_sem] max2_int min2_int max_two min_two max_three min_three max_four min_four
set_option linter.unusedVariables false
set_option linter.unusedSimpArgs false

end Go.Proofs.Ytkhpojcplejdjaa.A

namespace Go.Proofs.Ytkhpojcplejdjaa.A
open Go.RowKit Go.Proofs.YtkhpojcplejdjaaW.PrintWords Go.Proofs.YtkhpojcplejdjaaW.PrintLast Go.Proofs.YtkhpojcplejdjaaW.PrintMore
set_option linter.unusedVariables false
set_option linter.unusedSimpArgs false
end Go.Proofs.Ytkhpojcplejdjaa.A

-- made by a program of this repo (wip/pp.py) through the kit's printer
namespace Go.Proofs.Ytkhpojcplejdjaa.A
open Go.RowKit Go.Proofs.YtkhpojcplejdjaaW.PrintWords Go.Proofs.YtkhpojcplejdjaaW.PrintLast Go.Proofs.YtkhpojcplejdjaaW.PrintMore
attribute [local go_sem] max2_int min2_int max_two min_two max_three min_three max_four min_four
set_option linter.unusedVariables false
set_option linter.unusedSimpArgs false

/-! ### spec_doTimes: function 58 -/
mutual
def spec_doTimes.l0 : Nat → List (List Int) → List (List Int) → List (List Int) → Int → Int → Option ((List (List Int)))
 | 0, _, _, _, _, _ => none
 | k + 1, x0, x1, x5, x13, x14 => if x14 < x13 then (spec_doTimes.l1 k x0 x1 x5 x14 x13 x14 (x0.length : Int) 0) else (some x5)
def spec_doTimes.l1 : Nat → List (List Int) → List (List Int) → List (List Int) → Int → Int → Int → Int → Int → Option ((List (List Int)))
 | 0, _, _, _, _, _, _, _, _ => none
 | k + 1, x0, x1, x5, x6, x13, x14, x18, x19 => if x19 < x18 then (spec_doTimes.l2 k x0 x1 x5 x6 x19 x13 x14 x18 x19 (x0.length : Int) 0) else (spec_doTimes.l0 k x0 x1 x5 x13 (wrap64 (x14 + 1)))
def spec_doTimes.l2 : Nat → List (List Int) → List (List Int) → List (List Int) → Int → Int → Int → Int → Int → Int → Int → Int → Option ((List (List Int)))
 | 0, _, _, _, _, _, _, _, _, _, _, _ => none
 | k + 1, x0, x1, x5, x6, x7, x13, x14, x18, x19, x23, x24 => if x24 < x23 then (if 0 ≤ x6 then (if x6 < (x5.length : Int) then (if 0 ≤ x7 then (if x7 < ((rd_L1 x5 x6).length : Int) then (if x6 < (x0.length : Int) then (if 0 ≤ x24 then (if x24 < ((rd_L1 x0 x6).length : Int) then (if x24 < (x1.length : Int) then (if x7 < ((rd_L1 x1 x24).length : Int) then (spec_doTimes.l2 k x0 x1 (x5.set (x6 : Int).toNat ((rd_L1 x5 x6).set (x7 : Int).toNat (wrap64 ((rd (rd_L1 x5 x6) x7) + (wrap64 ((rd (rd_L1 x0 x6) x24) * (rd (rd_L1 x1 x24) x7))))))) x6 x7 x13 x14 x18 x19 x23 (wrap64 (x24 + 1))) else (none)) else (none)) else (none)) else (none)) else (none)) else (none)) else (none)) else (none)) else (none)) else (spec_doTimes.l1 k x0 x1 x5 x6 x13 x14 x18 (wrap64 (x19 + 1)))
end
end Go.Proofs.Ytkhpojcplejdjaa.A

-- made by a program of this repo (wip/pp.py) through the kit's printer
namespace Go.Proofs.Ytkhpojcplejdjaa.A
open Go.RowKit Go.Proofs.YtkhpojcplejdjaaW.PrintWords Go.Proofs.YtkhpojcplejdjaaW.PrintLast Go.Proofs.YtkhpojcplejdjaaW.PrintMore
attribute [local go_sem] max2_int min2_int max_two min_two max_three min_three max_four min_four
set_option linter.unusedVariables false
set_option linter.unusedSimpArgs false

end Go.Proofs.Ytkhpojcplejdjaa.A

/- product, MultiplyTables: the product, by a function that has captured both tables and goes over a row and a column. -/
namespace Go.Proofs.Ytkhpojcplejdjaa.A
open Go.RowKit Go.Proofs.YtkhpojcplejdjaaW.PrintWords Go.Proofs.YtkhpojcplejdjaaW.PrintLast Go.Proofs.YtkhpojcplejdjaaW.PrintMore
attribute [local go_sem] max2_int min2_int max_two min_two max_three min_three max_four min_four
set_option linter.unusedVariables false
set_option linter.unusedSimpArgs false

end Go.Proofs.Ytkhpojcplejdjaa.A

/- MultiplyTables: the product of two tables, checked. -/
namespace Go.Proofs.Ytkhpojcplejdjaa.A
open Go.RowKit Go.Proofs.YtkhpojcplejdjaaW.PrintWords Go.Proofs.YtkhpojcplejdjaaW.PrintLast Go.Proofs.YtkhpojcplejdjaaW.PrintMore
attribute [local go_sem] max2_int min2_int max_two min_two max_three min_three max_four min_four
set_option linter.unusedVariables false
set_option linter.unusedSimpArgs false

end Go.Proofs.Ytkhpojcplejdjaa.A

namespace Go.Proofs.Ytkhpojcplejdjaa.A
open Go.RowKit Go.Proofs.YtkhpojcplejdjaaW.PrintWords Go.Proofs.YtkhpojcplejdjaaW.PrintLast Go.Proofs.YtkhpojcplejdjaaW.PrintMore
set_option linter.unusedVariables false
set_option linter.unusedSimpArgs false
end Go.Proofs.Ytkhpojcplejdjaa.A

namespace Go.Proofs.Ytkhpojcplejdjaa.A
open Go.RowKit Go.Proofs.YtkhpojcplejdjaaW.PrintWords Go.Proofs.YtkhpojcplejdjaaW.PrintLast Go.Proofs.YtkhpojcplejdjaaW.PrintMore
set_option linter.unusedVariables false
set_option linter.unusedSimpArgs false
/-! finite sums; tables with equal sums -/
def sN (n : Nat) (f : Nat → Int) : Int := ((List.range n).map f).sum
theorem sN_zero (f : Nat → Int) : sN 0 f = 0 := by simp [sN]
theorem sN_succ (n : Nat) (f : Nat → Int) : sN (n + 1) f = sN n f + f n := by
 unfold sN
 rw [List.range_succ, List.map_append, List.sum_append]
 simp
theorem sN_congr {n : Nat} {f g : Nat → Int} (h : ∀ i, i < n → f i = g i) : sN n f = sN n g := by
 unfold sN
 rw [List.map_congr_left fun i hi => h i (List.mem_range.1 hi)]
theorem sN_none (n : Nat) : sN n (fun _ => 0) = 0 := by
 induction n with
 | zero => exact sN_zero _
 | succ n ih => rw [sN_succ, ih]; omega
theorem sN_add (n : Nat) (f g : Nat → Int) : sN n (fun i => f i + g i) = sN n f + sN n g := by
 induction n with
 | zero => simp [sN_zero]
 | succ n ih => rw [sN_succ, sN_succ, sN_succ, ih]; omega
theorem sN_mul (n : Nat) (c : Int) (f : Nat → Int) : sN n (fun i => c * f i) = c * sN n f := by
 induction n with
 | zero => simp [sN_zero]
 | succ n ih => rw [sN_succ, sN_succ, ih, Int.mul_add]
theorem sN_comm (n m : Nat) (f : Nat → Nat → Int) : sN n (fun i => sN m (fun j => f i j)) = sN m (fun j => sN n (fun i => f i j)) := by
 induction n with
 | zero => rw [sN_zero, sN_congr (g := fun _ => 0) (fun j _ => sN_zero _), sN_none]
 | succ n ih => rw [sN_succ, ih, ← sN_add, sN_congr (fun j _ => sN_succ n (fun i => f i j))]
theorem sN_one {n a : Nat} (h : a < n) (v : Int) : sN n (fun b => if b = a then v else 0) = v := by
 induction n with
 | zero => omega
 | succ n ih =>
  rw [sN_succ]
  by_cases e : n = a
  · subst e
    rw [sN_congr (g := fun _ => 0) (fun i hi => if_neg (by omega)), sN_none, if_pos rfl]
    omega
  · rw [ih (by omega), if_neg e]
    omega
theorem sN_bd {n : Nat} {f : Nat → Int} {m : Int} (h : ∀ i, i < n → 0 ≤ f i ∧ f i ≤ m) : 0 ≤ sN n f ∧ sN n f ≤ m * (n : Int) := by
 induction n with
 | zero => rw [sN_zero]; omega
 | succ n ih =>
  have := ih (fun i hi => h i (by omega))
  have := h n (by omega)
  rw [sN_succ, Int.natCast_succ, Int.mul_add]
  omega
def EqT (n : Nat) (G : Nat → Nat → Int) (s : Int) : Prop := ∀ i, i < n → sN n (G i) = s ∧ sN n (fun k => G k i) = s
theorem tabG_row_sum {n : Nat} (G : Nat → Nat → Int) {i : Nat} (h : i < n) : ((tabG n G).getD i []).sum = sN n (G i) := by
 have e : i < (tabG n G).length := by rw [tabG_length]; exact h
 rw [List.getD_eq_getElem?_getD, List.getElem?_eq_getElem e, Option.getD_some, tabG_get]
 rfl
theorem tabG_col_sum {n : Nat} (G : Nat → Nat → Int) {i : Nat} (h : i < n) : ((tabG n G).map fun x => rd x (i : Int)).sum = sN n (fun k => G k i) := by
 unfold tabG sN
 rw [List.map_map]
 refine congrArg List.sum (List.map_congr_left fun k _ => ?_)
 exact rowG_at (G k) h
theorem tabG_all {n : Nat} (G : Nat → Nat → Int) (s : Int) : (List.range' 0 n).all (okI (tabG n G) s) = true ↔ EqT n G s := by
 rw [List.all_eq_true]
 constructor
 · intro h i hi
   have k := h i (by rw [List.mem_range'_1]; omega)
   unfold okI at k
   rw [tabG_row_sum G hi, tabG_col_sum G hi, Bool.and_eq_true, decide_eq_true_eq, decide_eq_true_eq] at k
   exact k
 · intro h i hi
   rw [List.mem_range'_1] at hi
   have k := h i (by omega)
   unfold okI
   rw [tabG_row_sum G (by omega), tabG_col_sum G (by omega), Bool.and_eq_true, decide_eq_true_eq, decide_eq_true_eq]
   exact k
theorem tab_self {l : List (List Int)} (h : squareB l = true) : tabG l.length (atG l) = l := tabG_self fun x hx => ((square_tab h).1.row x hx).1
end Go.Proofs.Ytkhpojcplejdjaa.A

namespace Go.Proofs.Ytkhpojcplejdjaa.A
open Go.RowKit Go.Proofs.YtkhpojcplejdjaaW.PrintWords Go.Proofs.YtkhpojcplejdjaaW.PrintLast Go.Proofs.YtkhpojcplejdjaaW.PrintMore
set_option linter.unusedVariables false
set_option linter.unusedSimpArgs false
/-! more rows than columns: a relation over the whole numbers -/
def skipN (p k : Nat) : Nat := if k < p then k else k + 1
def unskipN (p k : Nat) : Nat := if k < p then k else k - 1
theorem unskip_skip (p k : Nat) : unskipN p (skipN p k) = k := by
 unfold unskipN skipN
 by_cases h : k < p
 · rw [if_pos h, if_pos h]
 · rw [if_neg h, if_neg (by omega)]
   omega
theorem skip_ne (p k : Nat) : skipN p k ≠ p := by
 unfold skipN
 by_cases h : k < p
 · rw [if_pos h]; omega
 · rw [if_neg h]; omega
theorem sN_skip (f : Nat → Int) : ∀ (m p : Nat), p ≤ m → sN (m + 1) f = sN m (fun k => f (skipN p k)) + f p
 | 0, p, h => by
  obtain rfl : p = 0 := by omega
  rw [sN_succ, sN_zero, sN_zero]
 | m + 1, p, h => by
  by_cases e : p = m + 1
  · subst e
    rw [sN_succ]
    congr 1
    exact sN_congr fun i hi => by
     unfold skipN
     rw [if_pos (by omega)]
  · have ih := sN_skip f m p (by omega)
    rw [sN_succ, ih, sN_succ]
    have e2 : skipN p m = m + 1 := by
     unfold skipN
     rw [if_neg (by omega)]
    rw [e2]
    omega
theorem lin_dep : ∀ (d m : Nat) (v : Nat → Nat → Int), d < m → ∃ c : Nat → Int, (∃ k, k < m ∧ c k ≠ 0) ∧ ∀ j, j < d → sN m (fun k => c k * v k j) = 0
 | 0, m, v, h => ⟨fun _ => 1, ⟨0, h, Int.one_ne_zero⟩, fun j hj => by omega⟩
 | d + 1, m, v, h => by
  by_cases hz : ∀ k, k < m → v k d = 0
  · obtain ⟨c, hc, h0⟩ := lin_dep d m v (by omega)
    refine ⟨c, hc, fun j hj => ?_⟩
    by_cases e : j = d
    · subst e
      rw [sN_congr (g := fun _ => 0) (fun k hk => by rw [hz k hk, Int.mul_zero]), sN_none]
    · exact h0 j (by omega)
  · obtain ⟨p, hp, ha⟩ : ∃ p, p < m ∧ v p d ≠ 0 := by
     refine Classical.byContradiction fun hno => hz fun k hk => ?_
     refine Classical.byContradiction fun hne => hno ⟨k, hk, hne⟩
    obtain ⟨m', rfl⟩ : ∃ m', m = m' + 1 := ⟨m - 1, by omega⟩
    obtain ⟨c, ⟨k0, hk0, hc0⟩, h0⟩ := lin_dep d m' (fun k j => v p d * v (skipN p k) j - v (skipN p k) d * v p j) (by omega)
    have key : ∀ j, sN (m' + 1) (fun k => (if k = p then -(sN m' fun k => c k * v (skipN p k) d) else v p d * c (unskipN p k)) * v k j) = sN m' (fun k => c k * (v p d * v (skipN p k) j - v (skipN p k) d * v p j)) := by
     intro j
     rw [sN_skip _ m' p (by omega), if_pos rfl]
     rw [sN_congr (g := fun k => v p d * (c k * v (skipN p k) j)) (fun k _ => by rw [if_neg (skip_ne p k), unskip_skip, Int.mul_assoc])]
     rw [sN_mul]
     have e : sN m' (fun k => c k * (v p d * v (skipN p k) j - v (skipN p k) d * v p j)) = v p d * sN m' (fun k => c k * v (skipN p k) j) + (-(v p j)) * sN m' (fun k => c k * v (skipN p k) d) := by
      rw [← sN_mul, ← sN_mul, ← sN_add]
      refine sN_congr fun k _ => ?_
      rw [Int.mul_sub]
      have e1 : c k * (v p d * v (skipN p k) j) = v p d * (c k * v (skipN p k) j) := Int.mul_left_comm _ _ _
      have e2 : c k * (v (skipN p k) d * v p j) = v p j * (c k * v (skipN p k) d) := by rw [← Int.mul_assoc, Int.mul_comm]
      rw [e1, e2, Int.neg_mul, Int.sub_eq_add_neg]
     rw [e, Int.neg_mul, Int.neg_mul, Int.mul_comm (v p j)]
    refine ⟨fun k => if k = p then -(sN m' fun k => c k * v (skipN p k) d) else v p d * c (unskipN p k), ⟨skipN p k0, ?_, ?_⟩, fun j hj => ?_⟩
    · unfold skipN
      split <;> omega
    · show (if skipN p k0 = p then _ else _) ≠ 0
      rw [if_neg (skip_ne p k0), unskip_skip]
      exact Int.mul_ne_zero ha hc0
    · rw [key j]
      by_cases e : j = d
      · subst e
        rw [sN_congr (g := fun _ => 0) (fun k _ => by rw [Int.mul_comm (v p j), Int.sub_self, Int.mul_zero]), sN_none]
      · exact h0 j (by omega)
/-- Tables that are placings, each with a place that no later one has: at most (n - 1) (n - 1) + 1 of them. -/
theorem places_few (n m : Nat) (hn : 1 ≤ n) (P : Nat → Nat → Nat → Int) (hs : ∀ k, k < m → EqT n (P k) 1) (a b : Nat → Nat) (ha : ∀ k, k < m → a k < n ∧ b k < n ∧ P k (a k) (b k) = 1) (hl : ∀ k q, k < q → q < m → P q (a k) (b k) = 0) : m ≤ (n - 1) * (n - 1) + 1 := by
 refine Classical.byContradiction fun hno => ?_
 obtain ⟨c, ⟨k0, hk0, hc0⟩, h0⟩ := lin_dep ((n - 1) * (n - 1) + 1) m (fun k j => if j = (n - 1) * (n - 1) then 1 else P k (j / (n - 1)) (j % (n - 1))) (by omega)
 -- the relation holds at every place
 have hsum : sN m c = 0 := by
  have := h0 ((n - 1) * (n - 1)) (by omega)
  rw [sN_congr (g := c) (fun k _ => by rw [if_pos rfl, Int.mul_one])] at this
  exact this
 have hblk : ∀ i j, i < n - 1 → j < n - 1 → sN m (fun k => c k * P k i j) = 0 := fun i j hi hj => by
  have hlt : i * (n - 1) + j < (n - 1) * (n - 1) := by
   have : (i + 1) * (n - 1) ≤ (n - 1) * (n - 1) := Nat.mul_le_mul_right _ (by omega)
   rw [Nat.succ_mul] at this
   omega
  have h1 : (i * (n - 1) + j) / (n - 1) = i := by
   rw [Nat.mul_comm, Nat.mul_add_div (by omega), Nat.div_eq_of_lt hj, Nat.add_zero]
  have h2 : (i * (n - 1) + j) % (n - 1) = j := by
   rw [Nat.mul_comm, Nat.mul_add_mod, Nat.mod_eq_of_lt hj]
  have := h0 (i * (n - 1) + j) (by omega)
  rw [sN_congr (g := fun k => c k * P k i j) (fun k _ => by rw [if_neg (by omega), h1, h2])] at this
  exact this
 have hrow : ∀ i, i < n → sN n (fun j => sN m (fun k => c k * P k i j)) = 0 := fun i hi => by
  rw [sN_comm, sN_congr (g := c) (fun k hk => by rw [sN_mul, ((hs k hk) i hi).1, Int.mul_one])]
  exact hsum
 have hcol : ∀ j, j < n → sN n (fun i => sN m (fun k => c k * P k i j)) = 0 := fun j hj => by
  rw [sN_comm, sN_congr (g := c) (fun k hk => by rw [sN_mul, ((hs k hk) j hj).2, Int.mul_one])]
  exact hsum
 obtain ⟨n', rfl⟩ : ∃ n', n = n' + 1 := ⟨n - 1, by omega⟩
 have e' : n' + 1 - 1 = n' := by omega
 rw [e'] at hblk
 have hlast : ∀ i, i < n' → sN m (fun k => c k * P k i n') = 0 := fun i hi => by
  have := hrow i (by omega)
  rw [sN_succ, sN_congr (g := fun _ => 0) (fun j hj => hblk i j hi hj), sN_none] at this
  omega
 have hall : ∀ i j, i < n' + 1 → j < n' + 1 → sN m (fun k => c k * P k i j) = 0 := fun i j hi hj => by
  have hin : i < n' → sN m (fun k => c k * P k i j) = 0 := fun h => by
   by_cases e : j = n'
   · rw [e]; exact hlast i h
   · exact hblk i j h (by omega)
  by_cases e : i = n'
  · have := hcol j hj
    rw [sN_succ, sN_congr (g := fun _ => 0) (fun q hq => by
     by_cases e : j = n'
     · rw [e]; exact hlast q hq
     · exact hblk q j hq (by omega)), sN_none] at this
    rw [e]
    omega
  · exact hin (by omega)
 -- the first one that has a part in it
 obtain ⟨k, hk, hck, hmin⟩ := least_lt (fun k => c k ≠ 0) m ⟨k0, hk0, hc0⟩
 have hk' := ha k hk
 have := hall (a k) (b k) hk'.1 hk'.2.1
 have e : sN m (fun q => c q * P q (a k) (b k)) = sN m (fun q => if q = k then c k else 0) := sN_congr fun q hq => by
  rcases Nat.lt_trichotomy q k with h | h | h
  · have hq0 := hmin q h
    have : c q = 0 := Classical.byContradiction hq0
    rw [this, if_neg (by omega), Int.zero_mul]
  · rw [h, if_pos rfl, hk'.2.2, Int.mul_one]
  · rw [hl k q h hq, if_neg (by omega), Int.mul_zero]
 rw [e, sN_one hk] at this
 exact hck this
end Go.Proofs.Ytkhpojcplejdjaa.A

namespace Go.Proofs.Ytkhpojcplejdjaa.A
open Go.RowKit Go.Proofs.YtkhpojcplejdjaaW.PrintWords Go.Proofs.YtkhpojcplejdjaaW.PrintLast Go.Proofs.YtkhpojcplejdjaaW.PrintMore
set_option linter.unusedVariables false
set_option linter.unusedSimpArgs false
/-! tables with equal sums: a placing is in each, and what is left has equal sums -/
theorem sN_le {n : Nat} {f g : Nat → Int} (h : ∀ i, i < n → f i ≤ g i) : sN n f ≤ sN n g := by
 induction n with
 | zero => rw [sN_zero, sN_zero]; exact Int.le_refl _
 | succ n ih =>
  have h1 := ih (fun i hi => h i (by omega))
  have h2 := h n (by omega)
  rw [sN_succ, sN_succ]
  omega
theorem sN_card (n : Nat) (S : Nat → Bool) (s : Int) : sN n (fun i => if S i = true then s else 0) = s * (cardB n S : Int) := by
 induction n with
 | zero => simp [sN_zero, cardB]
 | succ n ih =>
  have e : cardB (n + 1) S = cardB n S + (if S n = true then 1 else 0) := by
   unfold cardB
   rw [List.range_succ, List.countP_append, List.countP_singleton]
  rw [sN_succ, ih, e]
  split
  · rw [Int.natCast_add, Int.mul_add]
    simp
  · simp
theorem eq_placing {n : Nat} {G : Nat → Nat → Int} {s : Int} (h : EqT n G s) (h0 : ∀ i j, i < n → j < n → 0 ≤ G i j) (hs : 0 < s) : ∃ f : Nat → Nat, (∀ i, i < n → f i < n ∧ 0 < G i (f i)) ∧ ∀ i j, i < n → j < n → f i = f j → i = j := by
 rcases hall_or n (fun i j => decide (0 < G i j)) with ⟨f, h1, h2⟩ | ⟨S, hS⟩
 · exact ⟨f, fun i hi => ⟨(h1 i hi).1, by simpa using (h1 i hi).2⟩, h2⟩
 · exfalso
   have e1 : sN n (fun i => sN n (fun j => if S i = true then G i j else 0)) = s * (cardB n S : Int) := by
    rw [← sN_card]
    refine sN_congr fun i hi => ?_
    by_cases c : S i = true
    · rw [sN_congr (g := G i) (fun j _ => by rw [if_pos c]), if_pos c]
      exact (h i hi).1
    · rw [sN_congr (g := fun _ => 0) (fun j _ => by rw [if_neg c]), if_neg c, sN_none]
   have e2 : sN n (fun j => sN n (fun i => if nbr n (fun i j => decide (0 < G i j)) (fun _ => true) S j = true then G i j else 0)) = s * (cardB n (nbr n (fun i j => decide (0 < G i j)) (fun _ => true) S) : Int) := by
    rw [← sN_card]
    refine sN_congr fun j hj => ?_
    by_cases c : nbr n (fun i j => decide (0 < G i j)) (fun _ => true) S j = true
    · rw [sN_congr (g := fun i => G i j) (fun i _ => by rw [if_pos c]), if_pos c]
      exact (h j hj).2
    · rw [sN_congr (g := fun _ => 0) (fun i _ => by rw [if_neg c]), if_neg c, sN_none]
   have e3 : sN n (fun i => sN n (fun j => if S i = true then G i j else 0)) ≤ sN n (fun i => sN n (fun j => if nbr n (fun i j => decide (0 < G i j)) (fun _ => true) S j = true then G i j else 0)) := by
    refine sN_le fun i hi => sN_le fun j hj => ?_
    have hg := h0 i j hi hj
    by_cases c : S i = true
    · rw [if_pos c]
      by_cases c2 : 0 < G i j
      · rw [if_pos (nbr_iff.2 ⟨rfl, i, hi, c, by simpa using c2⟩)]
        exact Int.le_refl _
      · split <;> omega
    · rw [if_neg c]
      split <;> omega
   rw [sN_comm n n (fun i j => if nbr n (fun i j => decide (0 < G i j)) (fun _ => true) S j = true then G i j else 0), e1, e2] at e3
   have := Int.le_of_mul_le_mul_left e3 hs
   omega
/-- A placing as a list of columns. -/
structure Plg (n : Nat) (p : List Int) : Prop where
 len : p.length = n
 nd : p.Nodup
 bd : ∀ x ∈ p, 0 ≤ x ∧ x < (n : Int)
def ptF (p : List Int) (i j : Nat) : Int := if rd p (i : Int) = (j : Int) then 1 else 0
theorem nodup_rd {p : List Int} (h : p.Nodup) {i j : Nat} (hi : i < p.length) (hj : j < p.length) (e : rd p (i : Int) = rd p (j : Int)) : i = j := by
 rw [rdn hi, rdn hj] at e
 rcases Nat.lt_trichotomy i j with k | k | k
 · exact absurd e (List.pairwise_iff_getElem.1 h i j hi hj k)
 · exact k
 · exact absurd e.symm (List.pairwise_iff_getElem.1 h j i hj hi k)
theorem pt_eq {n : Nat} {p : List Int} (h : Plg n p) : EqT n (ptF p) 1 := by
 have hrow : ∀ i, i < n → sN n (ptF p i) = 1 := fun i hi => by
  have hip : i < p.length := by rw [h.len]; exact hi
  have hb := h.bd _ (List.getElem_mem hip)
  rw [← rdn hip] at hb
  obtain ⟨c, hc⟩ := Int.eq_ofNat_of_zero_le hb.1
  rw [sN_congr (g := fun j => if j = c then 1 else 0) (fun j _ => by
   unfold ptF
   by_cases e : j = c
   · rw [if_pos (by rw [hc, e]), if_pos e]
   · rw [if_neg (by rw [hc]; omega), if_neg e]), sN_one (by omega)]
 have hcol : ∀ j, j < n → 0 ≤ sN n (fun i => ptF p i j) ∧ sN n (fun i => ptF p i j) ≤ 1 := fun j hj => by
  by_cases hex : ∃ i, i < n ∧ rd p (i : Int) = (j : Int)
  · obtain ⟨i, hi, e⟩ := hex
    rw [sN_congr (g := fun q => if q = i then 1 else 0) (fun q hq => by
     unfold ptF
     by_cases e2 : q = i
     · rw [e2, if_pos e, if_pos rfl]
     · rw [if_neg (fun e3 => e2 (nodup_rd h.nd (by rw [h.len]; exact hq) (by rw [h.len]; exact hi) (e3.trans e.symm))), if_neg e2]), sN_one hi]
    omega
  · rw [sN_congr (g := fun _ => 0) (fun q hq => by
     unfold ptF
     rw [if_neg fun e => hex ⟨q, hq, e⟩]), sN_none]
    omega
 have htot : sN n (fun j => sN n (fun i => ptF p i j)) = (n : Int) := by
  rw [← sN_comm, sN_congr (g := fun _ => 1) (fun i hi => hrow i hi)]
  have := sN_card n (fun _ => true) 1
  rw [sN_congr (g := fun _ => 1) (fun i _ => by rw [if_pos rfl])] at this
  rw [this]
  unfold cardB
  rw [List.countP_true, List.length_range]
  omega
 have hone : ∀ (m : Nat) (f : Nat → Int), (∀ j, j < m → f j ≤ 1) → sN m f = (m : Int) → ∀ j, j < m → f j = 1 := by
  intro m
  induction m with
  | zero => intro f _ _ j hj; omega
  | succ m ih =>
   intro f hf hs j hj
   rw [sN_succ] at hs
   have h1 : sN m f ≤ (m : Int) := by
    have := sN_le (n := m) (f := f) (g := fun _ => 1) (fun i hi => hf i (by omega))
    have e := sN_card m (fun _ => true) 1
    rw [sN_congr (g := fun _ => 1) (fun i _ => by rw [if_pos rfl])] at e
    unfold cardB at e
    rw [List.countP_true, List.length_range] at e
    omega
   have h2 := hf m (by omega)
   by_cases e : j = m
   · rw [e]; omega
   · exact ih f (fun i hi => hf i (by omega)) (by omega) j (by omega)
 exact fun i hi => ⟨hrow i hi, hone n _ (fun j hj => (hcol j hj).2) htot i hi⟩
/-- What is left when c times a placing is taken away. -/
def subG (G : Nat → Nat → Int) (p : List Int) (c : Int) (i j : Nat) : Int := G i j - c * ptF p i j
theorem sub_eq {n : Nat} {G : Nat → Nat → Int} {s : Int} (h : EqT n G s) {p : List Int} (hp : Plg n p) (c : Int) : EqT n (subG G p c) (s - c) := by
 have hp := pt_eq hp
 intro i hi
 constructor
 · rw [sN_congr (g := fun j => G i j + (-c) * ptF p i j) (fun j _ => by unfold subG; rw [Int.neg_mul]; omega), sN_add, sN_mul, (h i hi).1, (hp i hi).1]
   omega
 · rw [sN_congr (g := fun j => G j i + (-c) * ptF p j i) (fun j _ => by unfold subG; rw [Int.neg_mul]; omega), sN_add, sN_mul, (h i hi).2, (hp i hi).2]
   omega
end Go.Proofs.Ytkhpojcplejdjaa.A

namespace Go.Proofs.Ytkhpojcplejdjaa.A
open Go.RowKit Go.Proofs.YtkhpojcplejdjaaW.PrintWords Go.Proofs.YtkhpojcplejdjaaW.PrintLast Go.Proofs.YtkhpojcplejdjaaW.PrintMore
set_option linter.unusedVariables false
set_option linter.unusedSimpArgs false
theorem l1Has_l (xs : List Int) (x : Int) (hx : xs.length ≤ 9223372036854775807) : ∀ (n i : Nat), i + n = xs.length → Ev (fun k => spec_l1Has.l0 k x xs (xs.length : Int) (i : Int)) (decide (x ∈ xs.drop i))
 | 0, i, h => by
  refine Ev.succ ?_
  simp only [spec_l1Has.l0, if_neg (show ¬ (i : Int) < (xs.length : Int) by omega)]
  rw [List.drop_eq_nil_of_le (by omega), decide_eq_false (by simp)]
  exact Ev.now _
 | n + 1, i, h => by
  have hi : i < xs.length := by omega
  refine Ev.succ ?_
  simp only [spec_l1Has.l0, if_pos (show (i : Int) < (xs.length : Int) by omega), if_pos (show (0 : Int) ≤ (i : Int) by omega), rdn hi, wsucc hi hx]
  rw [List.drop_eq_getElem_cons hi]
  by_cases c : xs[i] = x
  · simp only [if_pos c]
    rw [decide_eq_true (by rw [c]; exact List.mem_cons_self)]
    exact Ev.now _
  · simp only [if_neg c, List.mem_cons, show ¬ x = xs[i] from fun e => c e.symm, false_or]
    exact l1Has_l xs x hx n (i + 1) (by omega)
theorem l1Has_ev (xs : List Int) (x : Int) (hx : xs.length ≤ 9223372036854775807) : Ev (fun k => spec_l1Has.f k xs x) (decide (x ∈ xs)) := l1Has_l xs x hx xs.length 0 (by omega)
end Go.Proofs.Ytkhpojcplejdjaa.A

namespace Go.Proofs.Ytkhpojcplejdjaa.A
open Go.RowKit Go.Proofs.YtkhpojcplejdjaaW.PrintWords Go.Proofs.YtkhpojcplejdjaaW.PrintLast Go.Proofs.YtkhpojcplejdjaaW.PrintMore
set_option linter.unusedVariables false
set_option linter.unusedSimpArgs false
/-! all placings of a table, in order -/
def plc (l : List (List Int)) : Nat → List Int → List (List Int)
 | 0, p => [p]
 | m + 1, p => (List.range (rd_L1 l (p.length : Int)).length).flatMap fun (j : Nat) => if rd (rd_L1 l (p.length : Int)) (j : Int) > 0 then (if (j : Int) ∈ p then [] else plc l m (p ++ [(j : Int)])) else []
def plcAt (l : List (List Int)) (m : Nat) (p : List Int) (j : Nat) : List (List Int) := if rd (rd_L1 l (p.length : Int)) (j : Int) > 0 then (if (j : Int) ∈ p then [] else plc l m (p ++ [(j : Int)])) else []
theorem plc_succ (l : List (List Int)) (m : Nat) (p : List Int) : plc l (m + 1) p = (List.range (rd_L1 l (p.length : Int)).length).flatMap (plcAt l m p) := rfl
theorem range_drop {n i : Nat} (h : i < n) : (List.range n).drop i = i :: (List.range n).drop (i + 1) := by
 rw [List.drop_eq_getElem_cons (by simpa using h)]
 simp
/-- What is found from column i on. -/
def plcFrom (l : List (List Int)) (m : Nat) (p : List Int) (i : Nat) : List (List Int) := ((List.range (rd_L1 l (p.length : Int)).length).drop i).flatMap (plcAt l m p)
theorem plcFrom_zero (l : List (List Int)) (m : Nat) (p : List Int) : plcFrom l m p 0 = plc l (m + 1) p := by
 unfold plcFrom
 rw [List.drop_zero, plc_succ]
theorem plcFrom_end (l : List (List Int)) (m : Nat) (p : List Int) : plcFrom l m p (rd_L1 l (p.length : Int)).length = [] := by
 unfold plcFrom
 rw [List.drop_eq_nil_of_le (by simp)]
 rfl
theorem plcFrom_step (l : List (List Int)) (m : Nat) (p : List Int) {i : Nat} (h : i < (rd_L1 l (p.length : Int)).length) : plcFrom l m p i = plcAt l m p i ++ plcFrom l m p (i + 1) := by
 unfold plcFrom
 rw [range_drop h, List.flatMap_cons]
theorem take_add_take {α : Type} (a b : List α) (n : Nat) : a.take n ++ (b.take (n - (a.take n).length)) = (a ++ b).take n := by
 rw [List.take_append, List.length_take]
 congr 1
 by_cases h : n ≤ a.length
 · rw [Nat.min_eq_left h, show n - n = 0 by omega, show n - a.length = 0 by omega]
 · rw [Nat.min_eq_right (by omega)]
/-- The spec's list: the first ones. -/
theorem doPlc_ev (l : List (List Int)) (hl : l.length ≤ 6) (hr : ∀ i, i < l.length → (rd_L1 l (i : Int)).length ≤ 1000) : ∀ (m : Nat) (p : List Int) (most : Nat), p.length + m = l.length → 1 ≤ most → most ≤ 1000 → Ev (fun k => spec_doPlacings.f k l p (most : Int)) ((plc l m p).take most)
 | 0, p, most, hm, h1, h2 => by
  refine Ev.succ ?_
  simp only [spec_doPlacings.f, if_pos (show (p.length : Int) = (l.length : Int) by omega)]
  unfold spec_l1Own.f
  simp only [Option.bind_some, List.length_nil, List.nil_append, if_pos (show 0 + p.length < 17592186044416 by omega)]
  unfold plc
  rw [List.take_of_length_le (by simpa using h1)]
  exact Ev.now _
 | m + 1, p, most, hm, h1, h2 => by
  refine Ev.succ ?_
  have hp : p.length < l.length := by omega
  simp only [spec_doPlacings.f, if_neg (show ¬ (p.length : Int) = (l.length : Int) by omega), if_pos (show (0 : Int) ≤ (p.length : Int) by omega), if_pos (show (p.length : Int) < (l.length : Int) by omega)]
  have hrl := hr p.length hp
  have key : ∀ (n i : Nat) (out : List (List Int)), i + n = (rd_L1 l (p.length : Int)).length → out.length ≤ most → (out ++ plcFrom l m p i).take most = (plc l (m + 1) p).take most →
   Ev (fun k => spec_doPlacings.l0 k l p (most : Int) out (rd_L1 l (p.length : Int)) ((rd_L1 l (p.length : Int)).length : Int) (i : Int)) ((plc l (m + 1) p).take most) := by
   intro n
   induction n with
   | zero =>
    intro i out hi ho he
    have ei : i = (rd_L1 l (p.length : Int)).length := by omega
    refine Ev.succ ?_
    simp only [spec_doPlacings.l0, if_neg (show ¬ (i : Int) < ((rd_L1 l (p.length : Int)).length : Int) by omega)]
    rw [ei, plcFrom_end, List.append_nil, List.take_of_length_le ho] at he
    rw [he]
    exact Ev.now _
   | succ n ih =>
    intro i out hi ho he
    have hlt : i < (rd_L1 l (p.length : Int)).length := by omega
    have skip : plcAt l m p i = [] → Ev (fun k => spec_doPlacings.l0 k l p (most : Int) out (rd_L1 l (p.length : Int)) ((rd_L1 l (p.length : Int)).length : Int) ((i + 1 : Nat) : Int)) ((plc l (m + 1) p).take most) := by
     intro h0
     refine ih (i + 1) out (by omega) ho ?_
     rw [plcFrom_step l m p hlt, h0, List.nil_append] at he
     exact he
    refine Ev.succ ?_
    simp only [spec_doPlacings.l0, if_pos (show (i : Int) < ((rd_L1 l (p.length : Int)).length : Int) by omega), if_pos (show (0 : Int) ≤ (i : Int) by omega)]
    by_cases c1 : rd (rd_L1 l (p.length : Int)) (i : Int) > 0
    · simp only [if_pos c1]
      refine Ev.bind (l1Has_ev p (i : Int) (by omega)) ?_
      by_cases c2 : (i : Int) ∈ p
      · simp only [decide_eq_true c2, if_true]
        refine Ev.succ ?_
        simp only [spec_doPlacings.j1, Bool.false_eq_true, if_false, wsucc hlt (by omega)]
        exact skip (by unfold plcAt; rw [if_pos c1, if_pos c2])
      · simp only [decide_eq_false c2, Bool.false_eq_true, if_false]
        refine Ev.succ ?_
        simp only [spec_doPlacings.j1, decide_eq_true_eq]
        by_cases c3 : (out.length : Int) < (most : Int)
        · simp only [if_pos c3]
          unfold spec_l1Own.f
          simp only [Option.bind_some, List.length_nil, List.nil_append, if_pos (show 0 + p.length < 17592186044416 by omega), if_pos (show p.length < 17592186044416 by omega), w64 (x := (most : Int) - (out.length : Int)) (by omega) (by omega)]
          rw [show (most : Int) - (out.length : Int) = ((most - out.length : Nat) : Int) by omega]
          refine Ev.bind (doPlc_ev l hl hr m (p ++ [(i : Int)]) (most - out.length) (by rw [List.length_append]; simp; omega) (by omega) (by omega)) ?_
          have hlen : ((plc l m (p ++ [(i : Int)])).take (most - out.length)).length ≤ most - out.length := by rw [List.length_take]; omega
          simp only [if_pos (show out.length + ((plc l m (p ++ [(i : Int)])).take (most - out.length)).length < 5864062014805 by omega), wsucc hlt (by omega)]
          refine ih (i + 1) _ (by omega) (by rw [List.length_append]; omega) ?_
          have e1 : out.take most = out := List.take_of_length_le ho
          have e2 : plcAt l m p i = plc l m (p ++ [(i : Int)]) := by unfold plcAt; rw [if_pos c1, if_neg c2]
          have e3 : out ++ (plc l m (p ++ [(i : Int)])).take (most - out.length) = (out ++ plcAt l m p i).take most := by
           rw [e2, ← take_add_take, e1]
          rw [e3, ← he, plcFrom_step l m p hlt, ← List.append_assoc]
          generalize out ++ plcAt l m p i = a
          rw [List.take_append, List.take_append, List.take_take, Nat.min_self, List.length_take]
          congr 1
          by_cases h : most ≤ a.length
          · rw [Nat.min_eq_left h, show most - most = 0 by omega, show most - a.length = 0 by omega]
          · rw [Nat.min_eq_right (by omega)]
        · simp only [if_neg c3, wsucc hlt (by omega)]
          refine ih (i + 1) out (by omega) ho ?_
          have e : out.length = most := by omega
          rw [← he, List.take_append, List.take_append, show most - out.length = 0 by omega, List.take_zero, List.take_zero]
    · simp only [if_neg c1]
      refine Ev.succ ?_
      simp only [spec_doPlacings.j1, Bool.false_eq_true, if_false, wsucc hlt (by omega)]
      exact skip (by unfold plcAt; rw [if_neg c1])
  have := key (rd_L1 l (p.length : Int)).length 0 [] (by omega) (by simp) (by rw [plcFrom_zero, List.nil_append])
  exact this
/-- The visits of the search, by the list. -/
theorem dfs_first (l : List (List Int)) : ∀ (m : Nat) (o : Option (List Int)) (p : List Int), dfs l firstStep m o p = match plc l m p with | [] => (o, true) | q :: _ => (some q, false)
 | 0, o, p => rfl
 | m + 1, o, p => by
  have key : ∀ (n i : Nat) (o : Option (List Int)), i + n = (rd_L1 l (p.length : Int)).length → loopB (fun s j => if rd (rd_L1 l (p.length : Int)) (j : Int) > 0 then (if (j : Int) ∈ p then (s, true) else dfs l firstStep m s (p ++ [(j : Int)])) else (s, true)) ((List.range (rd_L1 l (p.length : Int)).length).drop i) o = match plcFrom l m p i with | [] => (o, true) | q :: _ => (some q, false) := by
   intro n
   induction n with
   | zero =>
    intro i o hi
    have ei : i = (rd_L1 l (p.length : Int)).length := by omega
    rw [ei, loopB_end, plcFrom_end]
   | succ n ih =>
    intro i o hi
    have hlt : i < (rd_L1 l (p.length : Int)).length := by omega
    rw [loopB_at _ _ hlt, plcFrom_step l m p hlt]
    unfold plcAt
    by_cases c1 : rd (rd_L1 l (p.length : Int)) (i : Int) > 0
    · by_cases c2 : (i : Int) ∈ p
      · simp only [if_pos c1, if_pos c2, if_true, List.nil_append]
        exact ih (i + 1) o (by omega)
      · simp only [if_pos c1, if_neg c2]
        rw [dfs_first l m o (p ++ [(i : Int)])]
        cases plc l m (p ++ [(i : Int)]) with
        | nil => exact ih (i + 1) o (by omega)
        | cons q t => rfl
    · simp only [if_neg c1, if_true, List.nil_append]
      exact ih (i + 1) o (by omega)
  have := key (rd_L1 l (p.length : Int)).length 0 o (by omega)
  rw [List.drop_zero, plcFrom_zero] at this
  exact this
theorem firstP_eq (l : List (List Int)) : firstP l = (plc l l.length []).head? := by
 unfold firstP
 rw [dfs_first]
 cases plc l l.length [] <;> rfl
end Go.Proofs.Ytkhpojcplejdjaa.A

namespace Go.Proofs.Ytkhpojcplejdjaa.A
open Go.RowKit Go.Proofs.YtkhpojcplejdjaaW.PrintWords Go.Proofs.YtkhpojcplejdjaaW.PrintLast Go.Proofs.YtkhpojcplejdjaaW.PrintMore
set_option linter.unusedVariables false
set_option linter.unusedSimpArgs false
/-! the parts of a table with equal sums -/
def minF (f : Nat → Int) : Nat → Int → Int
 | 0, a => a
 | n + 1, a => min (minF f n a) (f n)
theorem minF_bd (f : Nat → Int) (a : Int) : ∀ n : Nat, minF f n a ≤ a ∧ (∀ i, i < n → minF f n a ≤ f i) ∧ (minF f n a = a ∨ ∃ i, i < n ∧ minF f n a = f i)
 | 0 => ⟨Int.le_refl _, fun i hi => by omega, .inl rfl⟩
 | n + 1 => by
  obtain ⟨h1, h2, h3⟩ := minF_bd f a n
  unfold minF
  refine ⟨by omega, fun i hi => ?_, ?_⟩
  · by_cases e : i = n
    · rw [e]; omega
    · have := h2 i (by omega)
      omega
  · by_cases c : minF f n a ≤ f n
    · rw [Int.min_eq_left c]
      rcases h3 with h | ⟨i, hi, h⟩
      · exact .inl h
      · exact .inr ⟨i, by omega, h⟩
    · rw [Int.min_eq_right (by omega)]
      exact .inr ⟨n, by omega, rfl⟩
def entP (l : List (List Int)) (p : List Int) (i : Nat) : Int := atG l i (rd p (i : Int)).toNat
def lstP (l : List (List Int)) (p : List Int) : Int := minF (entP l p) p.length 1000000
def subT (l : List (List Int)) (p : List Int) (c : Int) : List (List Int) := tabG l.length (subG (atG l) p c)
structure Lft (n : Nat) (l : List (List Int)) (s : Int) : Prop where
 len : l.length = n
 n1 : 1 ≤ n
 n6 : n ≤ 6
 row : ∀ i, i < n → (rd_L1 l (i : Int)).length = n
 bd : ∀ i j, i < n → j < n → 0 ≤ atG l i j ∧ atG l i j ≤ 1000000
 eq : EqT n (atG l) s
structure PlgIn (n : Nat) (l : List (List Int)) (p : List Int) : Prop where
 len : p.length = n
 nd : p.Nodup
 bd : ∀ x ∈ p, 0 ≤ x ∧ x < (n : Int)
 pos : ∀ i, i < n → 0 < entP l p i
theorem PlgIn.plg {n : Nat} {l : List (List Int)} {p : List Int} (h : PlgIn n l p) : Plg n p := ⟨h.len, h.nd, h.bd⟩
theorem rd_snoc {p : List Int} {x : Int} {i : Nat} (h : i < p.length + 1) : rd (p ++ [x]) (i : Int) = if i < p.length then rd p (i : Int) else x := by
 rw [rdn (by rw [List.length_append, List.length_singleton]; exact h), List.getElem_append]
 by_cases c : i < p.length
 · rw [dif_pos c, if_pos c, rdn c]
 · rw [dif_neg c, if_neg c, List.getElem_singleton]
theorem plc_good {n : Nat} {l : List (List Int)} (hl : l.length = n) (hr : ∀ i, i < n → (rd_L1 l (i : Int)).length = n) : ∀ (m : Nat) (p q : List Int), p.length + m = n → p.Nodup → (∀ x ∈ p, 0 ≤ x ∧ x < (n : Int)) → (∀ i, i < p.length → 0 < entP l p i) → q ∈ plc l m p → PlgIn n l q
 | 0, p, q, hm, h1, h2, h3, hq => by
  have : q = p := by simpa [plc] using hq
  rw [this]
  exact ⟨by omega, h1, h2, fun i hi => h3 i (by omega)⟩
 | m + 1, p, q, hm, h1, h2, h3, hq => by
  rw [plc_succ] at hq
  obtain ⟨j, hj, hq⟩ := List.mem_flatMap.1 hq
  rw [List.mem_range, hr _ (by omega)] at hj
  unfold plcAt at hq
  split at hq
  · next hpos =>
    split at hq
    · simp at hq
    · next hne =>
      refine plc_good hl hr m (p ++ [(j : Int)]) q (by rw [List.length_append, List.length_singleton]; omega) ?_ ?_ ?_ hq
      · refine List.nodup_append.2 ⟨h1, List.pairwise_singleton _ _, fun a ha b hb e => ?_⟩
        rw [List.mem_singleton.1 hb] at e
        exact hne (e ▸ ha)
      · intro x hx
        rcases List.mem_append.1 hx with hx | hx
        · exact h2 x hx
        · rw [List.mem_singleton.1 hx]
          omega
      · intro i hi
        rw [List.length_append, List.length_singleton] at hi
        unfold entP
        rw [rd_snoc hi]
        by_cases c : i < p.length
        · rw [if_pos c]
          exact h3 i c
        · rw [if_neg c]
          have e : i = p.length := by omega
          rw [e, Int.toNat_natCast]
          exact hpos
  · simp at hq
theorem plc_has {n : Nat} {l : List (List Int)} (hr : ∀ i, i < n → (rd_L1 l (i : Int)).length = n) (f : Nat → Nat) (hf : ∀ i, i < n → f i < n ∧ 0 < atG l i (f i)) (hinj : ∀ i j, i < n → j < n → f i = f j → i = j) : ∀ (m i : Nat), i + m = n → (List.range n).map (fun k => (f k : Int)) ∈ plc l m ((List.range i).map fun k => (f k : Int))
 | 0, i, e => by
  have : i = n := by omega
  rw [this]
  simp [plc]
 | m + 1, i, e => by
  have ih := plc_has hr f hf hinj m (i + 1) (by omega)
  rw [List.range_succ, List.map_append] at ih
  have hlen : ((List.range i).map fun k => (f k : Int)).length = i := by simp
  rw [plc_succ, List.mem_flatMap]
  refine ⟨f i, ?_, ?_⟩
  · rw [List.mem_range, hlen, hr i (by omega)]
    exact (hf i (by omega)).1
  · unfold plcAt
    rw [hlen, if_pos (show rd (rd_L1 l (i : Int)) ((f i : Nat) : Int) > 0 from (hf i (by omega)).2)]
    rw [if_neg ?_]
    · exact ih
    · intro hm
      obtain ⟨k, hk, hkf⟩ := List.mem_map.1 hm
      rw [List.mem_range] at hk
      have := hinj k i (by omega) (by omega) (by omega)
      omega
theorem lft_plc {n : Nat} {l : List (List Int)} {s : Int} (h : Lft n l s) (hs : 0 < s) : ∃ p r, plc l n [] = p :: r ∧ PlgIn n l p := by
 obtain ⟨f, h1, h2⟩ := eq_placing h.eq (fun i j hi hj => (h.bd i j hi hj).1) hs
 have hm := plc_has h.row f h1 h2 n 0 (by omega)
 rw [List.range_zero, List.map_nil] at hm
 cases e : plc l n [] with
 | nil =>
  rw [e] at hm
  simp at hm
 | cons p r => exact ⟨p, r, rfl, plc_good h.len h.row n [] p (by simp) List.nodup_nil (by simp) (fun i hi => by simp at hi) (by rw [e]; exact List.mem_cons_self)⟩
theorem plg_rd {n : Nat} {p : List Int} (h : Plg n p) {i : Nat} (hi : i < n) : ∃ c : Nat, c < n ∧ rd p (i : Int) = (c : Int) := by
 have hip : i < p.length := by rw [h.len]; exact hi
 have hb := h.bd _ (List.getElem_mem hip)
 rw [← rdn hip] at hb
 exact ⟨(rd p (i : Int)).toNat, by omega, by omega⟩
theorem lst_bd {n : Nat} {l : List (List Int)} {s : Int} (h : Lft n l s) {p : List Int} (hp : PlgIn n l p) : 1 ≤ lstP l p ∧ (∀ i, i < n → lstP l p ≤ entP l p i) ∧ ∃ i, i < n ∧ lstP l p = entP l p i := by
 unfold lstP
 rw [hp.len]
 have hn := h.n1
 obtain ⟨h1, h2, h3⟩ := minF_bd (entP l p) 1000000 n
 have hex : ∃ i, i < n ∧ minF (entP l p) n 1000000 = entP l p i := by
  rcases h3 with h3 | h3
  · obtain ⟨c, hc, e⟩ := plg_rd hp.plg (show 0 < n by omega)
    have hb := (h.bd 0 c (by omega) hc).2
    have k := h2 0 (by omega)
    have e2 : entP l p 0 = atG l 0 c := by
     unfold entP
     rw [e, Int.toNat_natCast]
    exact ⟨0, by omega, by omega⟩
  · exact h3
 refine ⟨?_, h2, hex⟩
 obtain ⟨i, hi, e⟩ := hex
 have := hp.pos i hi
 omega
theorem subG_bd {n : Nat} {l : List (List Int)} {s : Int} (h : Lft n l s) {p : List Int} (hp : PlgIn n l p) {i j : Nat} (hi : i < n) (hj : j < n) : 0 ≤ subG (atG l) p (lstP l p) i j ∧ subG (atG l) p (lstP l p) i j ≤ atG l i j := by
 obtain ⟨h1, h2, _⟩ := lst_bd h hp
 have hb := h.bd i j hi hj
 unfold subG ptF
 by_cases c : rd p (i : Int) = (j : Int)
 · rw [if_pos c, Int.mul_one]
   have := h2 i hi
   unfold entP at this
   rw [c, Int.toNat_natCast] at this
   omega
 · rw [if_neg c, Int.mul_zero]
   omega
theorem lft_step {n : Nat} {l : List (List Int)} {s : Int} (h : Lft n l s) {p : List Int} (hp : PlgIn n l p) : Lft n (subT l p (lstP l p)) (s - lstP l p) := by
 have e : subT l p (lstP l p) = tabG n (subG (atG l) p (lstP l p)) := by
  unfold subT
  rw [h.len]
 rw [e]
 refine ⟨tabG_length _ _, h.n1, h.n6, fun i hi => tabG_rowlen _ hi, fun i j hi hj => ?_, ?_⟩
 · rw [atG_tab _ hi hj]
   have h1 := subG_bd h hp hi hj
   have h2 := h.bd i j hi hj
   omega
 · have := sub_eq h.eq hp.plg (lstP l p)
   intro i hi
   rw [sN_congr (g := subG (atG l) p (lstP l p) i) (fun j hj => atG_tab _ hi hj), sN_congr (g := fun k => subG (atG l) p (lstP l p) k i) (fun j hj => atG_tab _ hj hi)]
   exact this i hi
theorem lft_sum {n : Nat} {l : List (List Int)} {s : Int} (h : Lft n l s) : 0 ≤ s ∧ s ≤ 6000000 := by
 have hn := h.n1
 have h6 := h.n6
 have := sN_bd (n := n) (f := atG l 0) (m := 1000000) (fun j hj => h.bd 0 j (by omega) hj)
 rw [(h.eq 0 (by omega)).1] at this
 omega
/-- The greedy parts: the first placing, as often as it can be taken. -/
def partsL : Nat → List (List Int) → List (List Int × Int)
 | 0, _ => []
 | k + 1, l => if 0 < sum0 l then (match plc l l.length [] with
  | [] => []
  | p :: _ => (p, lstP l p) :: partsL k (subT l p (lstP l p))) else []
theorem lft_sum0 {n : Nat} {l : List (List Int)} {s : Int} (h : Lft n l s) : sum0 l = s := by
 have hn := h.n1
 have h0 : 0 < l.length := by rw [h.len]; omega
 rw [sum0_at h0, ← (h.eq 0 (by omega)).1]
 have e : l[0] = (List.range n).map (atG l 0) := by
  have hr := h.row 0 (by omega)
  have e2 : rd_L1 l ((0 : Nat) : Int) = l[0] := rd_L1n h0
  rw [e2] at hr
  apply List.ext_getElem
  · simp [hr]
  · intro j h3 h4
    simp only [List.getElem_map, List.getElem_range]
    unfold atG
    rw [e2, rdn h3]
 rw [e]
 rfl
theorem parts_zero {n : Nat} : ∀ (k : Nat) {l : List (List Int)} {s : Int}, Lft n l s → ∀ a b, a < n → b < n → atG l a b = 0 → ∀ x ∈ partsL k l, ptF x.1 a b = 0
 | 0, l, s, h, a, b, ha, hb, h0, x, hx => by simp [partsL] at hx
 | k + 1, l, s, h, a, b, ha, hb, h0, x, hx => by
  unfold partsL at hx
  rw [lft_sum0 h, h.len] at hx
  split at hx
  · next hs =>
    obtain ⟨p, r, e, hp⟩ := lft_plc h hs
    rw [e] at hx
    have hno : ptF p a b = 0 := by
     unfold ptF
     refine if_neg fun c => ?_
     have := hp.pos a ha
     unfold entP at this
     rw [c, Int.toNat_natCast, h0] at this
     omega
    rcases List.mem_cons.1 hx with hx | hx
    · rw [hx]
      exact hno
    · refine parts_zero k (lft_step h hp) a b ha hb ?_ x hx
      unfold subT
      rw [h.len, atG_tab _ ha hb]
      unfold subG
      rw [h0, hno]
      omega
  · simp at hx
theorem parts_all {n : Nat} : ∀ (k : Nat) {l : List (List Int)} {s : Int}, Lft n l s → s ≤ (k : Int) → (∀ x ∈ partsL k l, Plg n x.1 ∧ 1 ≤ x.2 ∧ x.2 ≤ 1000000) ∧ ((partsL k l).map Prod.snd).sum = s ∧ (∀ i j, i < n → j < n → ((partsL k l).map fun x => x.2 * ptF x.1 i j).sum = atG l i j) ∧ ((partsL k l).length : Int) ≤ s ∧ ∃ K : List (Nat × Nat), K.length = (partsL k l).length ∧ ∀ (m : Nat) (h1 : m < K.length) (h2 : m < (partsL k l).length), K[m].1 < n ∧ K[m].2 < n ∧ ptF (partsL k l)[m].1 K[m].1 K[m].2 = 1 ∧ ∀ (q : Nat) (h3 : q < (partsL k l).length), m < q → ptF (partsL k l)[q].1 K[m].1 K[m].2 = 0
 | 0, l, s, h, hk => by
  have h0 := lft_sum h
  have hs : s = 0 := by omega
  subst hs
  refine ⟨by simp [partsL], by simp [partsL], fun i j hi hj => ?_, by simp [partsL], [], rfl, fun m h1 => by simp at h1⟩
  have e := (h.eq i hi).1
  have hz : atG l i j = 0 := by
   have hb := h.bd i j hi hj
   have h1 : sN n (fun q => if q = j then atG l i j else 0) ≤ sN n (atG l i) := sN_le fun q hq => by
    by_cases c : q = j
    · rw [if_pos c, c]; exact Int.le_refl _
    · rw [if_neg c]; exact (h.bd i q hi hq).1
   rw [sN_one hj, e] at h1
   omega
  rw [hz]
  simp [partsL]
 | k + 1, l, s, h, hk => by
  have h0 := lft_sum h
  by_cases hs : 0 < s
  · obtain ⟨p, r, e, hp⟩ := lft_plc h hs
    obtain ⟨c1, c2, a, ha, c3⟩ := lst_bd h hp
    have hst := lft_step h hp
    have h0' := lft_sum hst
    have hP : partsL (k + 1) l = (p, lstP l p) :: partsL k (subT l p (lstP l p)) := by
     rw [partsL, lft_sum0 h, if_pos hs, h.len, e]
    obtain ⟨i1, i2, i3, i4, K, k1, k2⟩ := parts_all k hst (by omega)
    rw [hP]
    obtain ⟨b, hb, eb⟩ := plg_rd hp.plg ha
    have hcb : lstP l p ≤ 1000000 := by
     rw [c3]
     unfold entP
     rw [eb, Int.toNat_natCast]
     exact (h.bd a b ha hb).2
    refine ⟨fun x hx => ?_, by rw [List.map_cons, List.sum_cons, i2]; omega, fun i j hi hj => ?_, by rw [List.length_cons]; omega, (a, b) :: K, by rw [List.length_cons, List.length_cons, k1], fun m h1 h2 => ?_⟩
    · rcases List.mem_cons.1 hx with hx | hx
      · rw [hx]
        exact ⟨hp.plg, c1, hcb⟩
      · exact i1 x hx
    · rw [List.map_cons, List.sum_cons, i3 i j hi hj]
      unfold subT
      rw [h.len, atG_tab _ hi hj]
      unfold subG
      show lstP l p * ptF p i j + (atG l i j - lstP l p * ptF p i j) = atG l i j
      omega
    · cases m with
      | zero =>
       refine ⟨ha, hb, ?_, fun q h3 hq => ?_⟩
       · show ptF p a b = 1
         unfold ptF
         rw [if_pos eb]
       · obtain ⟨q', rfl⟩ : ∃ q', q = q' + 1 := ⟨q - 1, by omega⟩
         simp only [List.getElem_cons_succ, List.getElem_cons_zero]
         refine parts_zero k hst a b ha hb ?_ _ (List.getElem_mem _)
         unfold subT
         rw [h.len, atG_tab _ ha hb]
         unfold subG ptF
         rw [if_pos eb, c3]
         unfold entP
         rw [eb, Int.toNat_natCast]
         omega
      | succ m =>
       rw [List.length_cons] at h1 h2
       obtain ⟨u1, u2, u3, u4⟩ := k2 m (by omega) (by omega)
       simp only [List.getElem_cons_succ]
       refine ⟨u1, u2, u3, fun q h3 hq => ?_⟩
       obtain ⟨q', rfl⟩ : ∃ q', q = q' + 1 := ⟨q - 1, by omega⟩
       rw [List.length_cons] at h3
       simp only [List.getElem_cons_succ]
       exact u4 q' (by omega) (by omega)
  · have hs0 : s = 0 := by omega
    subst hs0
    have hP : partsL (k + 1) l = [] := by
     rw [partsL, lft_sum0 h, if_neg (by omega)]
    rw [hP]
    refine ⟨by simp, by simp, fun i j hi hj => ?_, by simp, [], rfl, fun m h1 => by simp at h1⟩
    have e := (h.eq i hi).1
    have hb := h.bd i j hi hj
    have h1 : sN n (fun q => if q = j then atG l i j else 0) ≤ sN n (atG l i) := sN_le fun q hq => by
     by_cases c : q = j
     · rw [if_pos c, c]; exact Int.le_refl _
     · rw [if_neg c]; exact (h.bd i q hi hq).1
    rw [sN_one hj, e] at h1
    show ([] : List Int).sum = _
    rw [List.sum_nil]
    omega
theorem parts_few {n : Nat} {k : Nat} {l : List (List Int)} {s : Int} (h : Lft n l s) (hk : s ≤ (k : Int)) : (partsL k l).length ≤ (n - 1) * (n - 1) + 1 := by
 obtain ⟨i1, _, _, _, K, k1, k2⟩ := parts_all k h hk
 refine places_few n (partsL k l).length h.n1 (fun m => ptF ((partsL k l).getD m ([], 0)).1) (fun m hm => ?_) (fun m => (K.getD m (0, 0)).1) (fun m => (K.getD m (0, 0)).2) (fun m hm => ?_) (fun m q hmq hq => ?_)
 · rw [List.getD_eq_getElem?_getD, List.getElem?_eq_getElem hm, Option.getD_some]
   exact pt_eq (i1 _ (List.getElem_mem hm)).1
 · have hK : m < K.length := by omega
   rw [List.getD_eq_getElem?_getD, List.getD_eq_getElem?_getD, List.getElem?_eq_getElem hm, List.getElem?_eq_getElem hK, Option.getD_some, Option.getD_some]
   obtain ⟨u1, u2, u3, _⟩ := k2 m hK hm
   exact ⟨u1, u2, u3⟩
 · have hm : m < (partsL k l).length := by omega
   have hK : m < K.length := by omega
   rw [List.getD_eq_getElem?_getD, List.getD_eq_getElem?_getD, List.getElem?_eq_getElem hq, List.getElem?_eq_getElem hK, Option.getD_some, Option.getD_some]
   exact (k2 m hK hm).2.2.2 q hq hmq
end Go.Proofs.Ytkhpojcplejdjaa.A

namespace Go.Proofs.Ytkhpojcplejdjaa.A
open Go.RowKit Go.Proofs.YtkhpojcplejdjaaW.PrintWords Go.Proofs.YtkhpojcplejdjaaW.PrintLast Go.Proofs.YtkhpojcplejdjaaW.PrintMore
set_option linter.unusedVariables false
set_option linter.unusedSimpArgs false
theorem doSum_ev {l : List (List Int)} (hT : Tab l) (h1 : 1 ≤ l.length) : Ev (fun k => spec_doSum.f k l) (if (List.range' 0 l.length).all (okI l (sum0 l)) = true then sum0 l else -1) := by
 unfold spec_doSum.f
 simp only [if_pos (show (0 : Int) < (l.length : Int) by omega)]
 have e : rd_L1 l 0 = l[0] := rd_L1n (i := 0) (by omega)
 rw [e]
 refine Ev.bind (liSumB_ev l[0] (tab_bg hT (List.getElem_mem (by omega)))) ?_
 rw [← sum0_at (by omega)]
 exact specSum_l0 hT (sum0 l) l.length 0 (by omega)
theorem equalSum_ev {l : List (List Int)} (hT : Tab l) (h1 : 1 ≤ l.length) : Ev (fun k => impl_equalSum.f k l) (if (List.range' 0 l.length).all (okI l (sum0 l)) = true then (sum0 l, true) else (0, false)) := by
 unfold impl_equalSum.f
 simp only [if_pos (show (0 : Int) < (l.length : Int) by omega)]
 have e : rd_L1 l 0 = l[0] := rd_L1n (i := 0) (by omega)
 rw [e]
 refine Ev.bind (totalB_ev l[0] (tab_bg hT (List.getElem_mem (by omega)))) ?_
 rw [← sum0_at (by omega)]
 exact implSum_l0 hT (sum0 l) l.length 0 (by omega)
end Go.Proofs.Ytkhpojcplejdjaa.A

namespace Go.Proofs.Ytkhpojcplejdjaa.A
open Go.RowKit Go.Proofs.YtkhpojcplejdjaaW.PrintWords Go.Proofs.YtkhpojcplejdjaaW.PrintLast Go.Proofs.YtkhpojcplejdjaaW.PrintMore
set_option linter.unusedVariables false
set_option linter.unusedSimpArgs false
/-! what one round of PartsOf does to a table with equal sums -/
theorem parts_ok {n : Nat} {l : List (List Int)} {s : Int} (h : Lft n l s) {p : List Int} (hp : Plg n p) {i : Nat} (hi : i < n) : pOk l p i = true := by
 obtain ⟨c, hc, e⟩ := plg_rd hp hi
 unfold pOk
 rw [decide_eq_true_eq, h.len, h.row i hi, e]
 omega
theorem parts_ent {n : Nat} {l : List (List Int)} {p : List Int} (hp : Plg n p) {i : Nat} (hi : i < n) : pEnt l p i = entP l p i := by
 obtain ⟨c, hc, e⟩ := plg_rd hp hi
 unfold pEnt entP atG
 rw [e, Int.toNat_natCast]
theorem least_run {n : Nat} {l : List (List Int)} {s : Int} (h : Lft n l s) {p : List Int} (hp : Plg n p) (a : Int) : ∀ d i : Nat, i + d = n → pLeast l p d i (minF (entP l p) i a) = some (minF (entP l p) n a)
 | 0, i, e => by
  have : i = n := by omega
  rw [this]
  rfl
 | d + 1, i, e => by
  unfold pLeast
  rw [if_pos (parts_ok h hp (show i < n by omega)), parts_ent hp (show i < n by omega)]
  exact least_run h hp a d (i + 1) (by omega)
theorem least_impl {n : Nat} {l : List (List Int)} {s : Int} (h : Lft n l s) {p : List Int} (hp : PlgIn n l p) : pLeast l p p.length 0 1000000 = some (lstP l p) := by
 unfold lstP
 rw [hp.len]
 exact least_run h hp.plg 1000000 n 0 (by omega)
theorem least_spec {n : Nat} {l : List (List Int)} {s : Int} (h : Lft n l s) {p : List Int} (hp : PlgIn n l p) : pLeast l p p.length 0 (pEnt l p 0) = some (lstP l p) := by
 have hn := h.n1
 obtain ⟨b1, b2, i0, hi0, b3⟩ := lst_bd h hp
 obtain ⟨c1, c2, c3⟩ := minF_bd (entP l p) (pEnt l p 0) n
 have e0 := parts_ent (l := l) hp.plg (show 0 < n by omega)
 have e : minF (entP l p) n (pEnt l p 0) = lstP l p := by
  have k1 := c2 i0 hi0
  rcases c3 with c3 | ⟨i, hi, c3⟩
  · have := b2 0 (by omega)
    omega
  · have := b2 i hi
    omega
 rw [hp.len, ← e]
 exact least_run h hp.plg (pEnt l p 0) n 0 (by omega)
def partG (l : List (List Int)) (p : List Int) (c : Int) (i a b : Nat) : Int := if a < i then subG (atG l) p c a b else atG l a b
theorem sub_run {n : Nat} {l : List (List Int)} {s : Int} (h : Lft n l s) {p : List Int} (hp : PlgIn n l p) : ∀ d i : Nat, i + d = n → pSub p (lstP l p) d i (tabG n (partG l p (lstP l p) i)) = some (tabG n (subG (atG l) p (lstP l p)))
 | 0, i, e => by
  have : i = n := by omega
  rw [this]
  show some _ = some _
  rw [tabG_congr (fun a b ha hb => by unfold partG; rw [if_pos ha])]
 | d + 1, i, e => by
  have hi : i < n := by omega
  obtain ⟨c, hc, ec⟩ := plg_rd hp.plg hi
  have hb := h.bd i c hi hc
  obtain ⟨b1, b2, _⟩ := lst_bd h hp
  have b2 := b2 i hi
  have e1 : entP l p i = atG l i c := by
   unfold entP
   rw [ec, Int.toNat_natCast]
  have ok : pOk (tabG n (partG l p (lstP l p) i)) p i = true := by
   unfold pOk
   rw [decide_eq_true_eq, tabG_length, tabG_rowlen _ hi, ec]
   omega
  have en : pEnt (tabG n (partG l p (lstP l p) i)) p i = atG l i c := by
   unfold pEnt
   rw [ec, tabG_at _ hi hc]
   unfold partG
   rw [if_neg (by omega)]
  unfold pSub
  rw [if_pos ok, en, ec, Int.toNat_natCast, tabG_set _ _ _ hi, w64 (by omega) (by omega)]
  rw [tabG_congr (G' := partG l p (lstP l p) (i + 1)) (fun a b ha hb => ?_)]
  · exact sub_run h hp d (i + 1) (by omega)
  · unfold updG partG subG ptF
    by_cases ca : a = i
    · subst ca
      rw [if_pos (show a < a + 1 by omega), if_neg (show ¬ a < a by omega), ec]
      by_cases cb : b = c
      · subst cb
        rw [if_pos ⟨rfl, rfl⟩, if_pos rfl]
        omega
      · rw [if_neg (fun x => cb x.2), if_neg (fun x : (c : Int) = (b : Int) => cb (by omega))]
        omega
    · rw [if_neg (fun x => ca x.1)]
      by_cases cl : a < i
      · rw [if_pos (show a < i + 1 by omega), if_pos cl]
      · rw [if_neg (show ¬ a < i + 1 by omega), if_neg cl]
theorem lft_tab {n : Nat} {l : List (List Int)} {s : Int} (h : Lft n l s) : tabG n (atG l) = l := by
 have := tabG_self (l := l) (fun x hx => by
  obtain ⟨i, hi, rfl⟩ := List.getElem_of_mem hx
  rw [h.len] at hi
  have k := h.row i hi
  rw [rd_L1n (by rw [h.len]; exact hi)] at k
  rw [k, h.len])
 rw [h.len] at this
 exact this
theorem sub_all {n : Nat} {l : List (List Int)} {s : Int} (h : Lft n l s) {p : List Int} (hp : PlgIn n l p) : pSub p (lstP l p) p.length 0 l = some (subT l p (lstP l p)) := by
 have k := sub_run h hp n 0 (by omega)
 rw [tabG_congr (G' := atG l) (fun a b ha hb => by unfold partG; rw [if_neg (by omega)]), lft_tab h] at k
 unfold subT
 rw [h.len, hp.len]
 exact k
end Go.Proofs.Ytkhpojcplejdjaa.A

namespace Go.Proofs.Ytkhpojcplejdjaa.A
open Go.RowKit Go.Proofs.YtkhpojcplejdjaaW.PrintWords Go.Proofs.YtkhpojcplejdjaaW.PrintLast Go.Proofs.YtkhpojcplejdjaaW.PrintMore
set_option linter.unusedVariables false
set_option linter.unusedSimpArgs false
/-! PartsOf: the two answer alike -/
theorem lft_tabP {n : Nat} {l : List (List Int)} {s : Int} (h : Lft n l s) : Tab l ∧ 1 ≤ l.length ∧ (List.range' 0 l.length).all (okI l (sum0 l)) = true := by
 have hn := h.n1
 have h6 := h.n6
 refine ⟨⟨by rw [h.len]; exact h6, fun x hx => ?_⟩, by rw [h.len]; exact hn, ?_⟩
 · obtain ⟨i, hi, rfl⟩ := List.getElem_of_mem hx
   have hi' : i < n := by rw [← h.len]; exact hi
   have k := h.row i hi'
   rw [rd_L1n hi] at k
   refine ⟨by rw [k, h.len], fun y hy => ?_⟩
   obtain ⟨j, hj, rfl⟩ := List.getElem_of_mem hy
   have b := h.bd i j hi' (by omega)
   unfold atG at b
   rw [rd_L1n hi, rdn hj] at b
   exact b
 · have := (tabG_all (atG l) s).2 h.eq
   rw [lft_tab h] at this
   rw [lft_sum0 h, h.len]
   exact this
theorem tab_lft {l : List (List Int)} (h : squareB l = true) (ha : (List.range' 0 l.length).all (okI l (sum0 l)) = true) : Lft l.length l (sum0 l) := by
 obtain ⟨hT, h1⟩ := square_tab h
 refine ⟨rfl, h1, hT.len, fun i hi => tab_rowlen hT hi, fun i j hi hj => atG_bd hT hi hj, ?_⟩
 refine (tabG_all (atG l) (sum0 l)).1 ?_
 rw [tab_self h]
 exact ha
theorem tab_small {l : List (List Int)} (hT : Tab l) : smallR l = true := by
 have hl := hT.len
 unfold smallR
 simp only [Bool.and_eq_true, decide_eq_true_eq, List.all_eq_true]
 exact ⟨by omega, fun x hx => by have := (hT.row x hx).1; omega⟩
def accP (x8 : List (List Int)) (x9 : List Int) (q : List (List Int × Int)) : List (List Int) × List Int × Bool := (x8 ++ q.map Prod.fst, x9 ++ q.map Prod.snd, true)
theorem specParts_l1 {n : Nat} : ∀ (m : Nat) {l : List (List Int)} {s : Int}, Lft n l s → s ≤ (m : Int) → ∀ (x8 : List (List Int)) (x9 : List Int), x8.length + (partsL m l).length ≤ 1000000 → x9.length + (partsL m l).length ≤ 1000000 → Ev (fun k => spec_PartsOf.l1 k l x8 x9) (accP x8 x9 (partsL m l)) := by
 intro m
 induction m with
 | zero =>
  intro l s h hs x8 x9 _ _
  obtain ⟨hT, h1, ha⟩ := lft_tabP h
  have hd := doSum_ev hT h1
  rw [if_pos ha, lft_sum0 h] at hd
  refine Ev.succ ?_
  simp only [spec_PartsOf.l1]
  refine Ev.bind hd ?_
  simp only [if_neg (show ¬ s > 0 by omega)]
  have e : accP x8 x9 (partsL 0 l) = (x8, x9, true) := by simp [accP, partsL]
  rw [e]
  exact Ev.now _
 | succ m ih =>
  intro l s h hs x8 x9 h8 h9
  obtain ⟨hT, h1, ha⟩ := lft_tabP h
  have hd := doSum_ev hT h1
  rw [if_pos ha, lft_sum0 h] at hd
  refine Ev.succ ?_
  simp only [spec_PartsOf.l1]
  refine Ev.bind hd ?_
  by_cases c : s > 0
  · simp only [if_pos c]
    obtain ⟨p, r, e, hp⟩ := lft_plc h c
    obtain ⟨b1, _, _⟩ := lst_bd h hp
    have hdp := doPlc_ev l hT.len (fun i hi => by rw [tab_rowlen hT hi]; have := hT.len; omega) l.length [] 1 (by simp) (by omega) (by omega)
    rw [h.len, e, List.take_succ_cons, List.take_zero] at hdp
    refine Ev.bind hdp ?_
    have er : rd_L1 [p] 0 = p := rd_L1n (xs := [p]) (i := 0) (by simp)
    have hn := h.n1
    simp only [er, List.length_singleton, if_pos (show 0 < 1 ∧ 0 < p.length ∧ pOk l p 0 = true from ⟨by omega, by rw [hp.len]; omega, parts_ok h hp.plg (by omega)⟩), least_spec h hp, sub_all h hp, Option.bind_some]
    have ep : partsL (m + 1) l = (p, lstP l p) :: partsL m (subT l p (lstP l p)) := by
     conv => lhs; unfold partsL
     rw [lft_sum0 h, if_pos (show 0 < s from c), h.len, e]
    rw [ep] at h8 h9 ⊢
    rw [List.length_cons] at h8 h9
    simp only [if_pos (show x8.length < 1000000 ∧ x9.length < 1000000 by omega)]
    have := ih (lft_step h hp) (by omega) (x8 ++ [p]) (x9 ++ [lstP l p]) (by rw [List.length_append, List.length_singleton]; omega) (by rw [List.length_append, List.length_singleton]; omega)
    simpa [accP] using this
  · simp only [if_neg c]
    have e : accP x8 x9 (partsL (m + 1) l) = (x8, x9, true) := by
     have : partsL (m + 1) l = [] := by
      unfold partsL
      rw [lft_sum0 h, if_neg c]
     simp [accP, this]
    rw [e]
    exact Ev.now _
theorem implParts_l1 {n : Nat} : ∀ (m : Nat) {l : List (List Int)} {s : Int}, Lft n l s → s ≤ (m : Int) → ∀ (x8 : List (List Int)) (x9 : List Int), x8.length + (partsL m l).length ≤ 1000000 → x9.length + (partsL m l).length ≤ 1000000 → Ev (fun k => impl_PartsOf.l1 k l x8 x9) (accP x8 x9 (partsL m l)) := by
 intro m
 induction m with
 | zero =>
  intro l s h hs x8 x9 _ _
  obtain ⟨hT, h1, ha⟩ := lft_tabP h
  have e0 : rd_L1 l 0 = l[0] := rd_L1n (i := 0) (by omega)
  have hd := totalB_ev l[0] (tab_bg hT (List.getElem_mem (by omega)))
  rw [← sum0_at (by omega), lft_sum0 h] at hd
  refine Ev.succ ?_
  simp only [impl_PartsOf.l1, if_pos (show 0 < l.length ∧ smallR l = true from ⟨by omega, tab_small hT⟩), e0]
  refine Ev.bind hd ?_
  simp only [if_neg (show ¬ s > 0 by omega)]
  have e : accP x8 x9 (partsL 0 l) = (x8, x9, true) := by simp [accP, partsL]
  rw [e]
  exact Ev.now _
 | succ m ih =>
  intro l s h hs x8 x9 h8 h9
  obtain ⟨hT, h1, ha⟩ := lft_tabP h
  have e0 : rd_L1 l 0 = l[0] := rd_L1n (i := 0) (by omega)
  have hd := totalB_ev l[0] (tab_bg hT (List.getElem_mem (by omega)))
  rw [← sum0_at (by omega), lft_sum0 h] at hd
  refine Ev.succ ?_
  simp only [impl_PartsOf.l1, if_pos (show 0 < l.length ∧ smallR l = true from ⟨by omega, tab_small hT⟩), e0]
  refine Ev.bind hd ?_
  by_cases c : s > 0
  · simp only [if_pos c]
    obtain ⟨p, r, e, hp⟩ := lft_plc h c
    obtain ⟨b1, _, _⟩ := lst_bd h hp
    have hf : firstP l = some p := by rw [firstP_eq, h.len, e]; rfl
    simp only [hf, least_impl h hp, sub_all h hp, Option.bind_some]
    have ep : partsL (m + 1) l = (p, lstP l p) :: partsL m (subT l p (lstP l p)) := by
     conv => lhs; unfold partsL
     rw [lft_sum0 h, if_pos (show 0 < s from c), h.len, e]
    rw [ep] at h8 h9 ⊢
    rw [List.length_cons] at h8 h9
    simp only [if_pos (show x8.length < 1000000 ∧ x9.length < 1000000 by omega)]
    have := ih (lft_step h hp) (by omega) (x8 ++ [p]) (x9 ++ [lstP l p]) (by rw [List.length_append, List.length_singleton]; omega) (by rw [List.length_append, List.length_singleton]; omega)
    simpa [accP] using this
  · simp only [if_neg c]
    have e : accP x8 x9 (partsL (m + 1) l) = (x8, x9, true) := by
     have : partsL (m + 1) l = [] := by
      unfold partsL
      rw [lft_sum0 h, if_neg c]
     simp [accP, this]
    rw [e]
    exact Ev.now _
def ptsL (l : List (List Int)) : List (List Int × Int) := partsL (sum0 l).toNat l
def ptsR (l : List (List Int)) : List (List Int) × List Int × Bool := if squareB l = true then (if (List.range' 0 l.length).all (okI l (sum0 l)) = true then accP [] [] (ptsL l) else ([], [], false)) else ([], [], false)
theorem pts_few {n : Nat} {l : List (List Int)} {s : Int} (h : Lft n l s) : (ptsL l).length ≤ 26 := by
 have h0 := lft_sum h
 have h6 := h.n6
 have h1 := h.n1
 unfold ptsL
 rw [lft_sum0 h]
 have := parts_few (k := s.toNat) h (by omega)
 have k : (n - 1) * (n - 1) ≤ 5 * 5 := Nat.mul_le_mul (by omega) (by omega)
 omega
theorem copy_step {l z : List (List Int)} (he : z.length = l.length) {i : Nat} (hi : i < l.length) : (l.take i ++ z.drop i).set i l[i] = l.take (i + 1) ++ z.drop (i + 1) := by
 rw [List.drop_eq_getElem_cons (show i < z.length by omega), List.set_append_right _ _ (by rw [List.length_take]; omega), List.length_take, Nat.min_eq_left (by omega), Nat.sub_self, List.set_cons_zero, List.take_succ_eq_append_getElem hi, List.append_assoc]
 rfl
theorem specParts_l0 {l : List (List Int)} (hT : Tab l) (z : List (List Int)) (he : z.length = l.length) {r : List (List Int) × List Int × Bool} (hr : Ev (fun k => spec_PartsOf.l1 k l [] []) r) : ∀ (d i : Nat), i + d = l.length → Ev (fun k => spec_PartsOf.l0 k (l.take i ++ z.drop i) l (l.length : Int) (i : Int)) r
 | 0, i, e => by
  refine Ev.succ ?_
  simp only [spec_PartsOf.l0, if_neg (show ¬ (i : Int) < (l.length : Int) by omega)]
  rw [List.take_of_length_le (by omega), List.drop_eq_nil_of_le (by omega), List.append_nil]
  exact hr
 | d + 1, i, e => by
  have hi : i < l.length := by omega
  have hl := hT.len
  have hrow := (hT.row _ (List.getElem_mem hi)).1
  refine Ev.succ ?_
  simp only [spec_PartsOf.l0, if_pos (show (i : Int) < (l.length : Int) by omega), if_pos (show (0 : Int) ≤ (i : Int) by omega), rd_L1n hi, l1Own_eq l[i] (by omega), Option.bind_some, if_pos (show (i : Int) < ((l.take i ++ z.drop i).length : Int) by rw [List.length_append, List.length_take, List.length_drop]; omega), Int.toNat_natCast, copy_step he hi, wsucc hi (by omega)]
  exact specParts_l0 hT z he hr d (i + 1) (by omega)
theorem specPartsOf_ev (l : List (List Int)) (u0 : l.length ≤ 1048576) (v0 : totSS l ≤ 1048576) : Ev (fun k => spec_PartsOf.f k l) (ptsR l) := by
 unfold spec_PartsOf.f ptsR
 refine Ev.bind (doGood_ev l u0 v0) (Ev.ite (fun h => ?_) (fun _ => Ev.succ (by simp only [spec_PartsOf.j0, if_true]; exact Ev.now _)))
 obtain ⟨hT, h1⟩ := square_tab h
 have hl := hT.len
 refine Ev.bind (doSum_ev hT h1) ?_
 by_cases ha : (List.range' 0 l.length).all (okI l (sum0 l)) = true
 · rw [if_pos ha, if_pos ha]
   have hL := tab_lft h ha
   have hs := lft_sum hL
   simp only [decide_eq_false (show ¬ sum0 l < 0 by omega)]
   refine Ev.succ ?_
   simp only [spec_PartsOf.j0, Bool.false_eq_true, if_false]
   refine Ev.bind (doEmpty_ev l.length (by omega)) ?_
   have hf := pts_few hL
   have hr := specParts_l1 (sum0 l).toNat hL (by omega) [] [] (by unfold ptsL at hf; simp only [List.length_nil]; omega) (by unfold ptsL at hf; simp only [List.length_nil]; omega)
   have := specParts_l0 hT (tabG l.length fun _ _ => 0) (tabG_length _ _) hr l.length 0 (by omega)
   simpa [ptsL] using this
 · rw [if_neg ha, if_neg ha]
   simp only [decide_eq_true (show (-1 : Int) < 0 by omega)]
   exact Ev.succ (by simp only [spec_PartsOf.j0, if_true]; exact Ev.now _)
theorem implPartsOf_ev (l : List (List Int)) (u0 : l.length ≤ 1048576) (v0 : totSS l ≤ 1048576) : Ev (fun k => impl_PartsOf.f k l) (ptsR l) := by
 unfold impl_PartsOf.f ptsR
 simp only [implIsSquare_eq l u0 v0, Option.bind_some]
 refine Ev.ite (fun h => ?_) (fun _ => Ev.now _)
 obtain ⟨hT, h1⟩ := square_tab h
 have hl := hT.len
 refine Ev.bind (equalSum_ev hT h1) ?_
 by_cases ha : (List.range' 0 l.length).all (okI l (sum0 l)) = true
 · simp only [if_pos ha, if_true]
   have hL := tab_lft h ha
   have hs := lft_sum hL
   have hf := pts_few hL
   refine Ev.bind (square_ev (partF l) (atG l) l.length (by omega) (fun i j hi hj => ?_)) ?_
   · unfold partF
     rw [if_pos ⟨by omega, by omega, by omega, by rw [tab_rowlen hT hi]; omega⟩]
     rfl
   · rw [lft_tab hL]
     exact implParts_l1 (sum0 l).toNat hL (by omega) [] [] (by unfold ptsL at hf; simp only [List.length_nil]; omega) (by unfold ptsL at hf; simp only [List.length_nil]; omega)
 · simp only [if_neg ha, Bool.false_eq_true, if_false]
   exact Ev.now _
end Go.Proofs.Ytkhpojcplejdjaa.A

namespace Go.Proofs.Ytkhpojcplejdjaa.A
open Go.RowKit Go.Proofs.YtkhpojcplejdjaaW.PrintWords Go.Proofs.YtkhpojcplejdjaaW.PrintLast Go.Proofs.YtkhpojcplejdjaaW.PrintMore
set_option linter.unusedVariables false
set_option linter.unusedSimpArgs false
/-! PartsOf: the answer's size -/
theorem accP_nil (q : List (List Int × Int)) : accP [] [] q = (q.map Prod.fst, q.map Prod.snd, true) := by simp [accP]
theorem ptsR_bd (l : List (List Int)) : totSS (ptsR l).1 ≤ 1000 ∧ (ptsR l).1.length ≤ 1000 ∧ (ptsR l).2.1.length ≤ 1000 := by
 unfold ptsR
 split
 · next hq =>
   split
   · next ha =>
     have hL := tab_lft hq ha
     have h6 := hL.n6
     have hs := lft_sum hL
     have hf := pts_few hL
     have hall := (parts_all (sum0 l).toNat hL (by omega)).1
     rw [accP_nil]
     have ht : totSS ((ptsL l).map Prod.fst) ≤ 6 * ((ptsL l).map Prod.fst).length := tot_le (fun x hx => by
      obtain ⟨y, hy, rfl⟩ := List.mem_map.1 hx
      have := (hall y hy).1.len
      omega)
     rw [List.length_map] at ht
     refine ⟨?_, ?_, ?_⟩
     · show totSS ((ptsL l).map Prod.fst) ≤ 1000
       omega
     · show ((ptsL l).map Prod.fst).length ≤ 1000
       rw [List.length_map]
       omega
     · show ((ptsL l).map Prod.snd).length ≤ 1000
       rw [List.length_map]
       omega
   · exact ⟨by simp [totSS], by simp, by simp⟩
 · exact ⟨by simp [totSS], by simp, by simp⟩
end Go.Proofs.Ytkhpojcplejdjaa.A

namespace Go.Proofs.Ytkhpojcplejdjaa.A
open Go.RowKit Go.Proofs.YtkhpojcplejdjaaW.PrintWords Go.Proofs.YtkhpojcplejdjaaW.PrintLast Go.Proofs.YtkhpojcplejdjaaW.PrintMore
set_option linter.unusedVariables false
set_option linter.unusedSimpArgs false
theorem toIntS_l (xs : List Int) (hx : xs.length ≤ 35184372088832) : ∀ (n i : Nat) (ys : List Int), i + n = xs.length → ys.length = xs.length → ys.take i = xs.take i → Ev (fun k => laws_toIntS.l0 k xs ys (i : Int)) xs
 | 0, i, ys, h, hl, ht => by
  refine Ev.succ ?_
  simp only [laws_toIntS.l0, if_neg (show ¬ (i : Int) < (xs.length : Int) by omega)]
  rw [List.take_of_length_le (by omega), List.take_of_length_le (by omega)] at ht
  rw [ht]
  exact Ev.now _
 | n + 1, i, ys, h, hl, ht => by
  have hi : i < xs.length := by omega
  refine Ev.succ ?_
  simp only [laws_toIntS.l0, if_pos (show (i : Int) < (xs.length : Int) by omega), if_pos (show (i : Int) < (ys.length : Int) by omega), if_pos (show (0 : Int) ≤ (i : Int) by omega), rdn hi, wsucc hi (by omega), Int.toNat_natCast]
  refine toIntS_l xs hx n (i + 1) _ (by omega) (by rw [List.length_set]; exact hl) ?_
  rw [List.take_add_one, List.take_add_one, List.take_set_of_le (Nat.le_refl _), ht]
  congr 1
  rw [List.getElem?_set_self (by omega), List.getElem?_eq_getElem hi]
theorem toIntS_ev (xs : List Int) (hx : xs.length ≤ 35184372088832) : Ev (fun k => laws_toIntS.f k xs) xs := by
 unfold laws_toIntS.f
 simp only [if_pos (show (0 : Int) ≤ (xs.length : Int) by omega), Int.toNat_natCast, if_pos hx]
 exact toIntS_l xs hx xs.length 0 _ (by omega) (by simp) (by simp)
end Go.Proofs.Ytkhpojcplejdjaa.A

namespace Go.Proofs.Ytkhpojcplejdjaa.A
open Go.RowKit Go.Proofs.YtkhpojcplejdjaaW.PrintWords Go.Proofs.YtkhpojcplejdjaaW.PrintLast Go.Proofs.YtkhpojcplejdjaaW.PrintMore
set_option linter.unusedVariables false
set_option linter.unusedSimpArgs false
theorem szIntS_eq (x : List Int) (s : Int) (hx : x.length ≤ 9223372036854775807) (h0 : 0 ≤ s) (h1 : s ≤ 1048576) : laws_szIntS.f x s = some (if s - (x.length : Int) < 0 then -1 else s - (x.length : Int)) := by
 unfold laws_szIntS.f
 rw [w64 (x := s - (x.length : Int)) (by omega) (by omega)]
 split <;> rfl
theorem toIntSS_l (l : List (List Int)) (hl : l.length ≤ 1048576) (hx : ∀ x ∈ l, x.length ≤ 1048576) : ∀ (n i : Nat) (ys : List (List Int)), i + n = l.length → ys.length = l.length → ys.take i = l.take i → Ev (fun k => laws_toIntSS.l0 k l ys (i : Int)) l
 | 0, i, ys, h, hy, ht => by
  refine Ev.succ ?_
  simp only [laws_toIntSS.l0, if_neg (show ¬ (i : Int) < (l.length : Int) by omega)]
  rw [List.take_of_length_le (by omega), List.take_of_length_le (by omega)] at ht
  rw [ht]
  exact Ev.now _
 | n + 1, i, ys, h, hy, ht => by
  have hi : i < l.length := by omega
  refine Ev.succ ?_
  simp only [laws_toIntSS.l0, if_pos (show (i : Int) < (l.length : Int) by omega), if_pos (show (i : Int) < (ys.length : Int) by omega), if_pos (show (0 : Int) ≤ (i : Int) by omega), rd_L1n hi, wsucc hi (by omega), Int.toNat_natCast]
  refine Ev.bind (toIntS_ev l[i] (by have := hx _ (List.getElem_mem hi); omega)) ?_
  refine toIntSS_l l hl hx n (i + 1) _ (by omega) (by rw [List.length_set]; exact hy) ?_
  rw [List.take_add_one, List.take_add_one, List.take_set_of_le (Nat.le_refl _), ht]
  congr 1
  rw [List.getElem?_set_self (by omega), List.getElem?_eq_getElem hi]
theorem toIntSS_ev (l : List (List Int)) (hl : l.length ≤ 1048576) (hx : totSS l ≤ 1048576) : Ev (fun k => laws_toIntSS.f k l) l := by
 unfold laws_toIntSS.f
 simp only [if_pos (show (0 : Int) ≤ (l.length : Int) by omega), Int.toNat_natCast, if_pos (show l.length ≤ 11728124029610 by omega)]
 exact toIntSS_l l hl (fun x h => Nat.le_trans (len_tot h) hx) l.length 0 _ (by omega) (by simp) (by simp)
end Go.Proofs.Ytkhpojcplejdjaa.A

namespace Go.Proofs.Ytkhpojcplejdjaa.A
open Go.RowKit Go.Proofs.YtkhpojcplejdjaaW.PrintWords Go.Proofs.YtkhpojcplejdjaaW.PrintLast Go.Proofs.YtkhpojcplejdjaaW.PrintMore
set_option linter.unusedVariables false
set_option linter.unusedSimpArgs false
theorem szGen_l (l : List (List Int)) (hl : l.length ≤ 9223372036854775807) (hx : ∀ x ∈ l, x.length ≤ 9223372036854775807) : ∀ (n i : Nat) (s : Int), i + n = l.length → 0 ≤ s → s ≤ 1048576 → ∃ r, Ev (fun k => laws_szIntSS.l0 k l s (i : Int)) r ∧ (0 ≤ r → (totSS (l.drop i) : Int) ≤ s ∧ r ≤ s)
 | 0, i, s, h, h0, h1 => by
  refine ⟨s, Ev.succ ?_, fun _ => ?_⟩
  · simp only [laws_szIntSS.l0, if_neg (show ¬ (i : Int) < (l.length : Int) by omega)]
    exact Ev.now _
  · rw [List.drop_eq_nil_of_le (by omega)]
    exact ⟨by simpa [totSS] using h0, Int.le_refl _⟩
 | n + 1, i, s, h, h0, h1 => by
  have hi : i < l.length := by omega
  have hxi := hx _ (List.getElem_mem hi)
  have hd : totSS (l.drop i) = (l[i]).length + totSS (l.drop (i + 1)) := by
   unfold totSS
   rw [List.drop_eq_getElem_cons hi, List.map_cons, List.sum_cons]
  by_cases hc : s - ((l[i]).length : Int) < 0
  · refine ⟨-1, Ev.succ ?_, fun h => by omega⟩
    simp only [laws_szIntSS.l0, if_pos (show (i : Int) < (l.length : Int) by omega), if_pos (show (0 : Int) ≤ (i : Int) by omega), rd_L1n hi, szIntS_eq _ s hxi h0 h1, if_pos hc, Option.bind_some, if_pos (show (-1 : Int) < 0 by decide)]
    exact Ev.now _
  · obtain ⟨r, hr, hr2⟩ := szGen_l l hl hx n (i + 1) (s - ((l[i]).length : Int)) (by omega) (by omega) (by omega)
    refine ⟨r, Ev.succ ?_, fun h => by have := hr2 h; omega⟩
    simp only [laws_szIntSS.l0, if_pos (show (i : Int) < (l.length : Int) by omega), if_pos (show (0 : Int) ≤ (i : Int) by omega), rd_L1n hi, szIntS_eq _ s hxi h0 h1, if_neg hc, Option.bind_some, wsucc hi (by omega)]
    exact hr
theorem szIntSS_gen (l : List (List Int)) (s : Int) (h0 : 0 ≤ s) (h1 : s ≤ 1048576) (hl : l.length ≤ 9223372036854775807) (hx : ∀ x ∈ l, x.length ≤ 9223372036854775807) : ∃ r, Ev (fun k => laws_szIntSS.f k l s) r ∧ (0 ≤ r → l.length ≤ 1048576 ∧ totSS l ≤ 1048576 ∧ r ≤ 1048576) := by
 unfold laws_szIntSS.f
 simp only [w64 (x := s - (l.length : Int)) (by omega) (by omega)]
 by_cases hc : s - (l.length : Int) < 0
 · refine ⟨-1, ?_, fun h => by omega⟩
   simp only [if_pos hc]
   exact Ev.now _
 · obtain ⟨r, hr, hr2⟩ := szGen_l l hl hx l.length 0 (s - (l.length : Int)) (by omega) (by omega) (by omega)
   refine ⟨r, ?_, fun h => ?_⟩
   · simp only [if_neg hc]
     exact hr
   · have := hr2 h
     rw [List.drop_zero] at this
     omega
end Go.Proofs.Ytkhpojcplejdjaa.A
