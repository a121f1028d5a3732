/- What the law FnExactTableFor reaches, part 3: Lean functions with the same answers as the Go functions, the proofs that the Go code comes to these answers, and lemmas about them; no condition beyond those that each theorem names. -/
import Derived.Test.YtmfpgimblifleaaCFnExactTableForw1
import Derived.Test.YtmfpgimblifleaaCFnExactTableFor1
import Derived.Test.YtmfpgimblifleaaCFnExactTableFor2
-- made by a program of this repo (wip/pp.py) through the kit's printer
namespace Go.Proofs.Ytmfpgimblifleaa.A
open Go.RowKit Go.Proofs.YtmfpgimblifleaaW.PrintWords Go.Proofs.YtmfpgimblifleaaW.PrintLast Go.Proofs.YtmfpgimblifleaaW.PrintMore
attribute [local go_sem] max2_int min2_int max_two min_two max_three min_three max_four min_four
set_option linter.unusedVariables false
set_option linter.unusedSimpArgs false

/-! ### spec_doEmpty: function 15 -/
def spec_doEmpty.l0 : Nat → Int → List (List Int) → Int → Option ((List (List Int)))
 | 0, _, _, _ => none
 | k + 1, x0, x3, x4 => if x4 < x0 then (if 0 ≤ x0 then (if (x0 : Int).toNat ≤ 35184372088832 then (if x3.length < 5864062014805 then (spec_doEmpty.l0 k x0 (x3 ++ [(List.replicate (x0 : Int).toNat 0)]) (wrap64 (x4 + 1))) else (none)) else (none)) else (none)) else (some x3)
def spec_doEmpty.f (k : Nat) (a0 : Int) : Option ((List (List Int))) := spec_doEmpty.l0 k a0 ([] : List (List Int)) 0
set_option maxHeartbeats 8000000 in
set_option maxRecDepth 100000 in
theorem spec_doEmpty.calls (k : Nat) (a0 : Int) (r : List (List Int)) (w : World) (h : spec_doEmpty.f k a0 = some r) :
 Calls Try.prog 15 #[.int .i64 a0] w fun e w' => ∃ v0_ : Value, e = .returned (v0_) ∧ Kd.S (Kd.slice 3 (Kd.int .i64)) 22 w' w.heap.size (fun _ => True) v0_ r ∧ Below w.heap.size w w' := by
 have HB := Aside0.mk (Below.refl w.heap.size w)
 have H : (spec_doEmpty.l0 k a0 ([] : List (List Int)) 0) = some r := h
 clear h
 have H' := Aside0.mk H
 clear H
 go_enter Try.func15, Try.ntmps15
 go_wp2
 go_loopg [3, 4] k (fun kq v3 v4 w' => ∃ (x3_1 : List (List Int)) (x4_1 : Int), v4 = .int .i64 x4_1 ∧ Aside0 (spec_doEmpty.l0 kq a0 x3_1 x4_1 = some r) ∧ Aside0 (kq ≤ k) ∧ Aside0 (Kd.S (Kd.slice 3 (Kd.int .i64)) 22 w' w.heap.size (fun _ => True) v3 x3_1) ∧ Aside0 (Below w.heap.size w w'))
 case atStart => exact ⟨(([] : List (List Int))), (0), (by first | rfl | (simp; done) | (simp [*]; done)), H', ⟨Nat.le_refl _⟩, ⟨by first | exact Kd.S_nil _ _ _ _ _ | exact Kd.N_nil _ _ _ _ _ | exact Kd.V_nil _ _ _ _ _ | exact Kd.Q_nil _ _ _ _ _ | exact Kd.R_nil _ _ _ _ _⟩, ⟨by repeat (first | (with_reducible first | exact HB.out | apply below_alloc | apply pw_below_drewN | apply below_drew1) | exact HB.out)⟩⟩
 case round =>
  clear H'
  try clear c1
  obtain ⟨x3_1, x4_1, rfl, HA, HK1, HO_3, HB⟩ := hrel
  cases gk with
  | zero => exact absurd HA.out (by simp [spec_doEmpty.l0])
  | succ k1 =>
   have H := HA.out
   clear HA
   simp only [spec_doEmpty.l0] at H
   by_cases c2 : x4_1 < a0
   · rw [if_pos c2] at H
     have c2b0 : decide (x4_1 < a0) = true := decide_eq_true c2
     clear c2
     by_cases c3 : 0 ≤ a0
     · rw [if_pos c3] at H
       have c3b0 := eq_true c3
       have c3b1 : decide (0 ≤ a0) = true := decide_eq_true c3
       clear c3
       by_cases c4 : (a0 : Int).toNat ≤ 35184372088832
       · rw [if_pos c4] at H
         have c4b0 := eq_true c4
         have c4b1 : decide ((a0 : Int).toNat ≤ 35184372088832) = true := decide_eq_true c4
         clear c4
         obtain ⟨y176, hy176⟩ : ∃ y_ : List Int, y_ = (List.replicate (a0 : Int).toNat 0) := ⟨_, rfl⟩
         replace H : (if x3_1.length < 5864062014805 then (spec_doEmpty.l0 k1 a0 (x3_1 ++ [y176]) (wrap64 (x4_1 + 1))) else (none)) = some r := by first | (rw [hy176]; with_reducible exact H) | (have H2_ := (Option.bind_some _ _).symm.trans H; rw [hy176]; with_reducible exact H2_) | (have H2_ := (Option.bind_some _ _).symm.trans H; with_reducible exact H2_) | with_reducible exact H | (rw [hy176]; exact H) | exact H
         have Ny176 := Aside0.mk hy176
         clear hy176
         by_cases c5 : x3_1.length < 5864062014805
         · rw [if_pos c5] at H
           have LMc5 := Aside0.mk c5
           clear c5
           obtain ⟨y179, hy179⟩ : ∃ y_ : List (List Int), y_ = (x3_1 ++ [y176]) := ⟨_, rfl⟩
           replace H : (spec_doEmpty.l0 k1 a0 y179 (wrap64 (x4_1 + 1))) = some r := by first | (rw [hy179]; with_reducible exact H) | (have H2_ := (Option.bind_some _ _).symm.trans H; rw [hy179]; with_reducible exact H2_) | (have H2_ := (Option.bind_some _ _).symm.trans H; with_reducible exact H2_) | with_reducible exact H | (rw [hy179]; exact H) | exact H
           have Ny179 := Aside0.mk hy179
           clear hy179
           have H' := Aside0.mk H
           clear H
           go_wp2_with (first | ((with_reducible refine gate_dst (N := 12) rfl ?_); refine Kd.R_make (Kd.int .i64) _ 3 rfl (N := 12) rfl 22 _ _ rfl a0 rfl rfl Try.underlying22 (.int .i64 0) 8 info3 rfl (by decide) (by omega) 0 (ok := fun _ => True) (okp := fun _ => True) rfl (fun _ hk => hk) trivial (of_decide_eq_true (by first | (with_reducible assumption) | assumption)) (Nat.le_trans (Nat.mul_le_mul_right _ (of_decide_eq_true (by first | (with_reducible assumption) | assumption) : a0.toNat ≤ 35184372088832)) (by omega)) (Below.refl _ _) (Nat.le_refl _) ?_; intro v177 w6 ho7 hb hg_ hnew_; clear hg_ hnew_; (first | rw [← Ny176.out] at ho7 | (simp only [Int.reduceToNat] at ho7; rw [← Ny176.out] at ho7)); have n0_ := Aside0.mk (Kd.S_elder' (by (with_reducible repeat (first | apply Kd.S_alloc | apply Kd.S_drewN | apply Kd.S_drew)); exact HO_3.out) (Kd.R_base ho7) hb); have n1_ := Aside0.mk (Kd.R_lower ho7 (below_size (by repeat (first | (with_reducible first | exact HB.out | apply below_alloc | apply pw_below_drewN | apply below_drew1) | exact HB.out)))); have n2_ := Aside0.mk (below_step (by repeat (first | (with_reducible first | exact HB.out | apply below_alloc | apply pw_below_drewN | apply below_drew1) | exact HB.out)) hb); clear HO_3; clear HB; have HO_3 := n0_; have HO178 := n1_; have HB := n2_; clear n0_ n1_ n2_; clear hb ho7; obtain ⟨Ao9, co9, eo9⟩ := Kd.R_slice HO178.out; subst eo9) | ((with_reducible refine gate_builtin (b := .append) (xs := #[.tmp 10, .tmp 13]) rfl ?_); at_builtin; refine Kd.S_append (Kd.slice 3 (Kd.int .i64)) (w0 := w) w.heap.size rfl (.tmp 10) (.tmp 13) 23 22 (.slice none 0 0) 24 rfl Try.underlying23 info22 rfl (by decide) (by omega) u3 x3_1 y176 [.slice Ao9 y176.length co9] (fun _ => True) (fun k_ => some k_ = (.slice Ao9 y176.length co9 : Value).ownBlock) rfl rfl ?aP (fun k_ hk_ => ((Kd.R_mono (ok' := fun k_ => ((fun _ => True)) k_ ∧ some k_ ≠ (u3 : Value).ownBlock) (Kd.R_apart' (HO178.out) (Kd.S_typed HO_3.out) (by decide)) (fun k_ hk => ⟨trivial, hk.2⟩))).1 k_ hk_.symm) ?aF ?aO ?aB ?aS ?aL ?_; (case aP => exact Kd.M_row (Kd.R_mono (Kd.R_tight rfl (Kd.R_mono (ok' := fun k_ => ((fun _ => True)) k_ ∧ some k_ ≠ (u3 : Value).ownBlock) (Kd.R_apart' (HO178.out) (Kd.S_typed HO_3.out) (by decide)) (fun k_ hk => ⟨trivial, hk.2⟩))) (fun _ h_ => h_))); (case aB => exact (by repeat (first | (with_reducible first | exact HB.out | apply below_alloc | apply pw_below_drewN | apply below_drew1) | exact HB.out))); (case aF => exact (fun _ _ => trivial)); (case aO => exact (by (with_reducible repeat (first | apply Kd.S_alloc | apply Kd.S_drewN | apply Kd.S_drew)); exact Kd.S_mono HO_3.out (fun k_ hk => ⟨trivial, fun e_ => hk.2 e_⟩))); (case aS => exact (below_size (by repeat (first | (with_reducible first | exact HB.out | apply below_alloc | apply pw_below_drewN | apply below_drew1) | exact HB.out)))); (case aL => have := LMc5.out; omega); intro v180 w8 ho hb hg hat; rw [← Ny179.out] at ho; have n0_ := Aside0.mk (hb); have n1_ := Aside0.mk (ho); clear HB; clear HO_3; clear HO178; have HB := n0_; have HO181 := n1_; clear n0_ n1_; clear ho hb hg hat))
           go_roundg k1
           case measure => have := HK1.out; omega
           case rel => exact ⟨(y179), (wrap64 (x4_1 + 1)), (by first | rfl | (simp; done) | (simp [*]; done)), H', ⟨by have := HK1.out; omega⟩, ⟨by (with_reducible repeat (first | apply Kd.S_alloc | apply Kd.S_drewN | apply Kd.S_drew)); exact HO181.out⟩, ⟨by repeat (first | (with_reducible first | exact HB.out | apply below_alloc | apply pw_below_drewN | apply below_drew1) | exact HB.out)⟩⟩
         · rw [if_neg c5] at H
           exact absurd H (by simp)
       · rw [if_neg c4] at H
         exact absurd H (by simp)
     · rw [if_neg c3] at H
       exact absurd H (by simp)
   · rw [if_neg c2] at H
     have c2b0 : decide (x4_1 < a0) = false := decide_eq_false c2
     clear c2
     obtain rfl := Option.some.inj H
     go_wp2
     go_ret
     exact ⟨_, by first | rfl | (simp [errW_none, errW_some] <;> rfl) | (simp [*, errW_none, errW_some] <;> rfl), by (with_reducible repeat (first | apply Kd.S_alloc | apply Kd.S_drewN | apply Kd.S_drew)); exact HO_3.out, by repeat (first | (with_reducible first | exact HB.out | apply below_alloc | apply pw_below_drewN | apply below_drew1) | exact HB.out)⟩

end Go.Proofs.Ytmfpgimblifleaa.A

-- made by a program of this repo (wip/pp.py) through the kit's printer
namespace Go.Proofs.Ytmfpgimblifleaa.A
open Go.RowKit Go.Proofs.YtmfpgimblifleaaW.PrintWords Go.Proofs.YtmfpgimblifleaaW.PrintLast Go.Proofs.YtmfpgimblifleaaW.PrintMore
attribute [local go_sem] max2_int min2_int max_two min_two max_three min_three max_four min_four
set_option linter.unusedVariables false
set_option linter.unusedSimpArgs false

/-! ### spec_l1Least: function 39 -/
def spec_l1Least.f (a0 : Int) (a1 : Int) : Option (Int) := if a0 < a1 then (some a0) else (some a1)
set_option maxHeartbeats 8000000 in
set_option maxRecDepth 100000 in
theorem spec_l1Least.calls (a0 : Int) (a1 : Int) (r : Int) (w : World) (h : spec_l1Least.f a0 a1 = some r) :
 Calls Try.prog 39 #[.int .i64 a0, .int .i64 a1] w fun e w' => e = .returned (.int .i64 r) ∧ Drawn0 w w' := by
 have H : (if a0 < a1 then (some a0) else (some a1)) = some r := h
 clear h
 by_cases c3 : a0 < a1
 · rw [if_pos c3] at H
   have c3b0 : decide (a0 < a1) = true := decide_eq_true c3
   clear c3
   obtain rfl := Option.some.inj H
   go_enter Try.func39, Try.ntmps39
   go_wp2
   go_ret
   exact ⟨by first | rfl | (simp; done) | (simp [*]; done), by repeat (first | exact Drawn0.refl _ | apply Drawn0.step)⟩
 · rw [if_neg c3] at H
   have c3b0 : decide (a0 < a1) = false := decide_eq_false c3
   clear c3
   obtain rfl := Option.some.inj H
   go_enter Try.func39, Try.ntmps39
   go_wp2
   go_ret
   exact ⟨by first | rfl | (simp; done) | (simp [*]; done), by repeat (first | exact Drawn0.refl _ | apply Drawn0.step)⟩

end Go.Proofs.Ytmfpgimblifleaa.A

-- made by a program of this repo (wip/pp.py) through the kit's printer
namespace Go.Proofs.Ytmfpgimblifleaa.A
open Go.RowKit Go.Proofs.YtmfpgimblifleaaW.PrintWords Go.Proofs.YtmfpgimblifleaaW.PrintLast Go.Proofs.YtmfpgimblifleaaW.PrintMore
attribute [local go_sem] max2_int min2_int max_two min_two max_three min_three max_four min_four
set_option linter.unusedVariables false
set_option linter.unusedSimpArgs false

/-! ### spec_doStep: function 16 -/
mutual
def spec_doStep.l0 : Nat → List Int → List Int → Int → Int → Int → Option (Int × Int × Int × Bool)
 | 0, _, _, _, _, _ => none
 | k + 1, x0, x1, x8, x12, x13 => if x13 < x12 then (if 0 ≤ x13 then (if x13 < (x0.length : Int) then (if x13 < (x1.length : Int) then (if (rd x0 x13) > (rd x1 x13) then (spec_doStep.l0 k x0 x1 x13 x12 (wrap64 (x13 + 1))) else (spec_doStep.l0 k x0 x1 x8 x12 (wrap64 (x13 + 1)))) else (none)) else (none)) else (none)) else (if x8 < 0 then (some (0, 0, 0, false)) else (spec_doStep.l1 k x0 x1 x8 (wrap64 (x8 + 1))))
def spec_doStep.l1 : Nat → List Int → List Int → Int → Int → Option (Int × Int × Int × Bool)
 | 0, _, _, _, _ => none
 | k + 1, x0, x1, x8, x10 => if 0 ≤ x10 then (if x10 < (x0.length : Int) then (if x10 < (x1.length : Int) then (if (rd x0 x10) ≥ (rd x1 x10) then (spec_doStep.l1 k x0 x1 x8 (wrap64 (x10 + 1))) else (if 0 ≤ x8 then (if x8 < (x0.length : Int) then (if x8 < (x1.length : Int) then ((spec_l1Least.f (wrap64 ((rd x0 x8) - (rd x1 x8))) (wrap64 ((rd x1 x10) - (rd x0 x10)))).bind fun t190 => (some (x8, x10, t190, true))) else (none)) else (none)) else (none))) else (none)) else (none)) else (none)
end
def spec_doStep.f (k : Nat) (l0 : List Int) (l1 : List Int) : Option (Int × Int × Int × Bool) := spec_doStep.l0 k l0 l1 (-1) (l0.length : Int) 0
set_option maxHeartbeats 8000000 in
set_option maxRecDepth 100000 in
theorem spec_doStep.calls (k : Nat) (A0 : Option Addr) (c0 : Nat) (l0 : List Int) (A1 : Option Addr) (c1 : Nat) (l1 : List Int) (r1 : Int) (r2 : Int) (r3 : Int) (r4 : Bool) (w : World) (hr0 : Kd.C (Kd.int .i64) w A0 l0.length l0) (hc0 : l0.length ≤ c0) (hr1 : Kd.C (Kd.int .i64) w A1 l1.length l1) (hc1 : l1.length ≤ c1) (h : spec_doStep.f k l0 l1 = some (r1, r2, r3, r4)) :
 Calls Try.prog 16 #[.slice A0 l0.length c0, .slice A1 l1.length c1] w fun e w' => e = .returned (.tuple #[.int .i64 r1, .int .i64 r2, .int .i64 r3, .bool r4]) ∧ Drawn0 w w' := by
 have HR0 := Aside0.mk hr0
 have HC0 := Aside0.mk hc0
 clear hr0 hc0
 have HR1 := Aside0.mk hr1
 have HC1 := Aside0.mk hc1
 clear hr1 hc1
 have H : (spec_doStep.l0 k l0 l1 (-1) (l0.length : Int) 0) = some (r1, r2, r3, r4) := h
 clear h
 have H' := Aside0.mk H
 clear H
 go_enter Try.func16, Try.ntmps16
 go_wp2
 repeat (go_quiet (fail); try go_wp2)
 go_loopg [8, 13] k (fun kq v8 v13 w' => ∃ (x8_1 : Int) (x13_1 : Int), v8 = .int .i64 x8_1 ∧ v13 = .int .i64 x13_1 ∧ Aside0 (spec_doStep.l0 kq l0 l1 x8_1 (l0.length : Int) x13_1 = some (r1, r2, r3, r4)) ∧ Aside0 (kq ≤ k) ∧ Drawn0 w w')
 case atStart => exact ⟨((-1)), (0), (by first | rfl | (simp; done) | (simp [*]; done)), (by first | rfl | (simp; done) | (simp [*]; done)), H', ⟨Nat.le_refl _⟩, by repeat (first | exact Drawn0.refl _ | apply Drawn0.step)⟩
 case round =>
  clear H'
  try clear c1
  try clear p2
  obtain ⟨x8_1, x13_1, rfl, rfl, HA, HK1, ⟨m1, rfl⟩⟩ := hrel
  cases gk with
  | zero => exact absurd HA.out (by simp [spec_doStep.l0])
  | succ k1 =>
   have H := HA.out
   clear HA
   simp only [spec_doStep.l0] at H
   by_cases c3 : x13_1 < (l0.length : Int)
   · rw [if_pos c3] at H
     have c3b0 : decide (x13_1 < (l0.length : Int)) = true := decide_eq_true c3
     clear c3
     by_cases c4 : 0 ≤ x13_1
     · rw [if_pos c4] at H
       have c4b0 : decide (0 ≤ x13_1) = true := decide_eq_true c4
       clear c4
       by_cases c5 : x13_1 < (l0.length : Int)
       · rw [if_pos c5] at H
         have c5b0 : decide (x13_1 < (l0.length : Int)) = true := decide_eq_true c5
         clear c5
         by_cases c6 : x13_1 < (l1.length : Int)
         · rw [if_pos c6] at H
           have c6b0 : decide (x13_1 < (l1.length : Int)) = true := decide_eq_true c6
           clear c6
           by_cases c7 : (rd l0 x13_1) > (rd l1 x13_1)
           · rw [if_pos c7] at H
             have c7b0 : decide ((rd l1 x13_1) < (rd l0 x13_1)) = true := decide_eq_true c7
             clear c7
             have H' := Aside0.mk H
             clear H
             have p182 : 0 ≤ (x13_1 : Int) := of_decide_eq_true (by first | (with_reducible assumption) | assumption)
             have q182 : x13_1 < (l0.length : Int) := of_decide_eq_true (by first | (with_reducible assumption) | assumption)
             obtain ⟨ad182, e182, hx182_0⟩ := Kd.at_int HR0.out x13_1 p182 q182
             cases e182
             replace p182 := eq_true p182
             replace q182 := eq_true q182
             have p183 : 0 ≤ (x13_1 : Int) := of_decide_eq_true (by first | (with_reducible assumption) | assumption)
             have q183 : x13_1 < (l1.length : Int) := of_decide_eq_true (by first | (with_reducible assumption) | assumption)
             obtain ⟨ad183, e183, hx183_0⟩ := Kd.at_int HR1.out x13_1 p183 q183
             cases e183
             replace p183 := eq_true p183
             replace q183 := eq_true q183
             go_wp2
             repeat (go_quiet (fail); try go_wp2)
             go_roundg k1
             case measure => have := HK1.out; omega
             case rel => exact ⟨(x13_1), (wrap64 (x13_1 + 1)), (by first | rfl | (simp; done) | (simp [*]; done)), (by first | rfl | (simp; done) | (simp [*]; done)), H', ⟨by have := HK1.out; omega⟩, by repeat (first | exact Drawn0.refl _ | apply Drawn0.step)⟩
           · rw [if_neg c7] at H
             have c7b0 : decide ((rd l1 x13_1) < (rd l0 x13_1)) = false := decide_eq_false c7
             clear c7
             have H' := Aside0.mk H
             clear H
             have p182 : 0 ≤ (x13_1 : Int) := of_decide_eq_true (by first | (with_reducible assumption) | assumption)
             have q182 : x13_1 < (l0.length : Int) := of_decide_eq_true (by first | (with_reducible assumption) | assumption)
             obtain ⟨ad182, e182, hx182_0⟩ := Kd.at_int HR0.out x13_1 p182 q182
             cases e182
             replace p182 := eq_true p182
             replace q182 := eq_true q182
             have p183 : 0 ≤ (x13_1 : Int) := of_decide_eq_true (by first | (with_reducible assumption) | assumption)
             have q183 : x13_1 < (l1.length : Int) := of_decide_eq_true (by first | (with_reducible assumption) | assumption)
             obtain ⟨ad183, e183, hx183_0⟩ := Kd.at_int HR1.out x13_1 p183 q183
             cases e183
             replace p183 := eq_true p183
             replace q183 := eq_true q183
             go_wp2
             repeat (go_quiet (fail); try go_wp2)
             go_roundg k1
             case measure => have := HK1.out; omega
             case rel => exact ⟨(x8_1), (wrap64 (x13_1 + 1)), (by first | rfl | (simp; done) | (simp [*]; done)), (by first | rfl | (simp; done) | (simp [*]; done)), H', ⟨by have := HK1.out; omega⟩, by repeat (first | exact Drawn0.refl _ | apply Drawn0.step)⟩
         · rw [if_neg c6] at H
           exact absurd H (by simp)
       · rw [if_neg c5] at H
         exact absurd H (by simp)
     · rw [if_neg c4] at H
       exact absurd H (by simp)
   · rw [if_neg c3] at H
     have c3b0 : decide (x13_1 < (l0.length : Int)) = false := decide_eq_false c3
     clear c3
     by_cases c8 : x8_1 < 0
     · rw [if_pos c8] at H
       have c8b0 : decide (x8_1 < 0) = true := decide_eq_true c8
       clear c8
       simp only [Option.some.injEq, Prod.mk.injEq] at H
       obtain ⟨rfl, rfl, rfl, rfl⟩ := H
       go_wp2
       repeat (go_quiet (fail); try go_wp2)
       refine bodyPost_ret (results_list (rs := [.tmp 4, .tmp 5, .tmp 6, .tmp 7]) rfl (by simp) (.tmp (.tmp (.tmp (.tmp .nil))))) rfl ?_
       exact ⟨by first | rfl | (simp; done) | (simp [*]; done), by repeat (first | exact Drawn0.refl _ | apply Drawn0.step)⟩
     · rw [if_neg c8] at H
       have c8b0 : decide (x8_1 < 0) = false := decide_eq_false c8
       clear c8
       have H' := Aside0.mk H
       clear H
       go_wp2
       repeat (go_quiet (fail); try go_wp2)
       go_loopg [10] k1 (fun kq v10 w' => ∃ (x10_2 : Int), v10 = .int .i64 x10_2 ∧ Aside0 (spec_doStep.l1 kq l0 l1 x8_1 x10_2 = some (r1, r2, r3, r4)) ∧ Aside0 (kq ≤ k1) ∧ Drawn0 w w')
       case atStart => exact ⟨(wrap64 (x8_1 + 1)), (by first | rfl | (simp; done) | (simp [*]; done)), H', ⟨Nat.le_refl _⟩, by repeat (first | exact Drawn0.refl _ | apply Drawn0.step)⟩
       case round =>
        clear H'
        try clear c1
        try clear p1
        try clear q1
        try clear hx1
        try clear p2
        try clear c3
        try clear c3b0
        try clear c4
        try clear c4b0
        try clear c5
        try clear c5b0
        try clear c6
        try clear c6b0
        try clear p6
        try clear c7
        try clear c7b0
        try clear c8
        try clear c8b0
        try clear hx182_0
        try clear hx183_0
        try clear p182
        try clear p183
        try clear p2
        try clear q182
        try clear q183
        obtain ⟨x10_2, rfl, HA, HK2, ⟨m2, rfl⟩⟩ := hrel
        cases gk with
        | zero => exact absurd HA.out (by simp [spec_doStep.l1])
        | succ k2 =>
         have H := HA.out
         clear HA
         simp only [spec_doStep.l1] at H
         by_cases c9 : 0 ≤ x10_2
         · rw [if_pos c9] at H
           have c9b0 : decide (0 ≤ x10_2) = true := decide_eq_true c9
           clear c9
           by_cases c10 : x10_2 < (l0.length : Int)
           · rw [if_pos c10] at H
             have c10b0 : decide (x10_2 < (l0.length : Int)) = true := decide_eq_true c10
             clear c10
             by_cases c11 : x10_2 < (l1.length : Int)
             · rw [if_pos c11] at H
               have c11b0 : decide (x10_2 < (l1.length : Int)) = true := decide_eq_true c11
               clear c11
               by_cases c12 : (rd l0 x10_2) ≥ (rd l1 x10_2)
               · rw [if_pos c12] at H
                 have c12b0 : decide ((rd l1 x10_2) ≤ (rd l0 x10_2)) = true := decide_eq_true c12
                 clear c12
                 have H' := Aside0.mk H
                 clear H
                 have p184 : 0 ≤ (x10_2 : Int) := of_decide_eq_true (by first | (with_reducible assumption) | assumption)
                 have q184 : x10_2 < (l0.length : Int) := of_decide_eq_true (by first | (with_reducible assumption) | assumption)
                 obtain ⟨ad184, e184, hx184_0⟩ := Kd.at_int HR0.out x10_2 p184 q184
                 cases e184
                 replace p184 := eq_true p184
                 replace q184 := eq_true q184
                 have p185 : 0 ≤ (x10_2 : Int) := of_decide_eq_true (by first | (with_reducible assumption) | assumption)
                 have q185 : x10_2 < (l1.length : Int) := of_decide_eq_true (by first | (with_reducible assumption) | assumption)
                 obtain ⟨ad185, e185, hx185_0⟩ := Kd.at_int HR1.out x10_2 p185 q185
                 cases e185
                 replace p185 := eq_true p185
                 replace q185 := eq_true q185
                 go_wp2
                 repeat (go_quiet (fail); try go_wp2)
                 go_roundg k2
                 case measure => have := HK1.out; have := HK2.out; omega
                 case rel => exact ⟨(wrap64 (x10_2 + 1)), (by first | rfl | (simp; done) | (simp [*]; done)), H', ⟨by have := HK1.out; have := HK2.out; omega⟩, by repeat (first | exact Drawn0.refl _ | apply Drawn0.step)⟩
               · rw [if_neg c12] at H
                 have c12b0 : decide ((rd l1 x10_2) ≤ (rd l0 x10_2)) = false := decide_eq_false c12
                 clear c12
                 by_cases c13 : 0 ≤ x8_1
                 · rw [if_pos c13] at H
                   have c13b0 : decide (0 ≤ x8_1) = true := decide_eq_true c13
                   clear c13
                   by_cases c14 : x8_1 < (l0.length : Int)
                   · rw [if_pos c14] at H
                     have c14b0 : decide (x8_1 < (l0.length : Int)) = true := decide_eq_true c14
                     clear c14
                     by_cases c15 : x8_1 < (l1.length : Int)
                     · rw [if_pos c15] at H
                       have c15b0 : decide (x8_1 < (l1.length : Int)) = true := decide_eq_true c15
                       clear c15
                       replace H := Option.bind_eq_some_iff.mp H
                       obtain ⟨t190, A160, H⟩ := H
                       replace H : (some (x8_1, x10_2, t190, true)) = some (r1, r2, r3, r4) := H
                       have A16 := Aside0.mk A160
                       clear A160
                       simp only [Option.some.injEq, Prod.mk.injEq] at H
                       obtain ⟨rfl, rfl, rfl, rfl⟩ := H
                       have p184 : 0 ≤ (x10_2 : Int) := of_decide_eq_true (by first | (with_reducible assumption) | assumption)
                       have q184 : x10_2 < (l0.length : Int) := of_decide_eq_true (by first | (with_reducible assumption) | assumption)
                       obtain ⟨ad184, e184, hx184_0⟩ := Kd.at_int HR0.out x10_2 p184 q184
                       cases e184
                       replace p184 := eq_true p184
                       replace q184 := eq_true q184
                       have p185 : 0 ≤ (x10_2 : Int) := of_decide_eq_true (by first | (with_reducible assumption) | assumption)
                       have q185 : x10_2 < (l1.length : Int) := of_decide_eq_true (by first | (with_reducible assumption) | assumption)
                       obtain ⟨ad185, e185, hx185_0⟩ := Kd.at_int HR1.out x10_2 p185 q185
                       cases e185
                       replace p185 := eq_true p185
                       replace q185 := eq_true q185
                       have p186 : 0 ≤ (x8_1 : Int) := of_decide_eq_true (by first | (with_reducible assumption) | assumption)
                       have q186 : x8_1 < (l0.length : Int) := of_decide_eq_true (by first | (with_reducible assumption) | assumption)
                       obtain ⟨ad186, e186, hx186_0⟩ := Kd.at_int HR0.out x8_1 p186 q186
                       obtain rfl : ad184 = ad186 := (by injection e186)
                       replace p186 := eq_true p186
                       replace q186 := eq_true q186
                       have p187 : 0 ≤ (x8_1 : Int) := of_decide_eq_true (by first | (with_reducible assumption) | assumption)
                       have q187 : x8_1 < (l1.length : Int) := of_decide_eq_true (by first | (with_reducible assumption) | assumption)
                       obtain ⟨ad187, e187, hx187_0⟩ := Kd.at_int HR1.out x8_1 p187 q187
                       obtain rfl : ad185 = ad187 := (by injection e187)
                       replace p187 := eq_true p187
                       replace q187 := eq_true q187
                       have p188 : 0 ≤ (x10_2 : Int) := of_decide_eq_true (by first | (with_reducible assumption) | assumption)
                       have q188 : x10_2 < (l1.length : Int) := of_decide_eq_true (by first | (with_reducible assumption) | assumption)
                       obtain ⟨ad188, e188, hx188_0⟩ := Kd.at_int HR1.out x10_2 p188 q188
                       obtain rfl : ad185 = ad188 := (by injection e188)
                       replace p188 := eq_true p188
                       replace q188 := eq_true q188
                       have p189 : 0 ≤ (x10_2 : Int) := of_decide_eq_true (by first | (with_reducible assumption) | assumption)
                       have q189 : x10_2 < (l0.length : Int) := of_decide_eq_true (by first | (with_reducible assumption) | assumption)
                       obtain ⟨ad189, e189, hx189_0⟩ := Kd.at_int HR0.out x10_2 p189 q189
                       obtain rfl : ad184 = ad189 := (by injection e189)
                       replace p189 := eq_true p189
                       replace q189 := eq_true q189
                       go_wp2_with (first | (go_at_call 39; (with_reducible refine (spec_l1Least.calls (wrap64 ((rd l0 x8_1) - (rd l1 x8_1))) (wrap64 ((rd l1 x10_2) - (rd l0 x10_2))) t190 _ A16.out).mono ?_); rintro e w' ⟨rfl, ⟨nd, rfl⟩⟩; (try first | exact ⟨rfl, _, World.drewN_drewN _ _ _⟩ | exact ⟨rfl, _, Eq.trans (World.drewN_drewN _ _ _) (congrArg (World.drewN _) (Nat.add_assoc _ _ _))⟩)))
                       repeat (go_quiet (first | (go_at_call 39; (with_reducible refine (spec_l1Least.calls (wrap64 ((rd l0 x8_1) - (rd l1 x8_1))) (wrap64 ((rd l1 x10_2) - (rd l0 x10_2))) t190 _ A16.out).mono ?_); rintro e w' ⟨rfl, ⟨nd, rfl⟩⟩; (try first | exact ⟨rfl, _, World.drewN_drewN _ _ _⟩ | exact ⟨rfl, _, Eq.trans (World.drewN_drewN _ _ _) (congrArg (World.drewN _) (Nat.add_assoc _ _ _))⟩))); try go_wp2_with (first | (go_at_call 39; (with_reducible refine (spec_l1Least.calls (wrap64 ((rd l0 x8_1) - (rd l1 x8_1))) (wrap64 ((rd l1 x10_2) - (rd l0 x10_2))) t190 _ A16.out).mono ?_); rintro e w' ⟨rfl, ⟨nd, rfl⟩⟩; (try first | exact ⟨rfl, _, World.drewN_drewN _ _ _⟩ | exact ⟨rfl, _, Eq.trans (World.drewN_drewN _ _ _) (congrArg (World.drewN _) (Nat.add_assoc _ _ _))⟩))))
                       refine bodyPost_ret (results_list (rs := [.tmp 4, .tmp 5, .tmp 6, .tmp 7]) rfl (by simp) (.tmp (.tmp (.tmp (.tmp .nil))))) rfl ?_
                       exact ⟨by first | rfl | (simp; done) | (simp [*]; done), by repeat (first | exact Drawn0.refl _ | apply Drawn0.step)⟩
                     · rw [if_neg c15] at H
                       exact absurd H (by simp)
                   · rw [if_neg c14] at H
                     exact absurd H (by simp)
                 · rw [if_neg c13] at H
                   exact absurd H (by simp)
             · rw [if_neg c11] at H
               exact absurd H (by simp)
           · rw [if_neg c10] at H
             exact absurd H (by simp)
         · rw [if_neg c9] at H
           exact absurd H (by simp)

end Go.Proofs.Ytmfpgimblifleaa.A

-- made by a program of this repo (wip/pp.py) through the kit's printer
namespace Go.Proofs.Ytmfpgimblifleaa.A
open Go.RowKit Go.Proofs.YtmfpgimblifleaaW.PrintWords Go.Proofs.YtmfpgimblifleaaW.PrintLast Go.Proofs.YtmfpgimblifleaaW.PrintMore
attribute [local go_sem] max2_int min2_int max_two min_two max_three min_three max_four min_four
set_option linter.unusedVariables false
set_option linter.unusedSimpArgs false

/-! ### spec_doTimes: function 17 -/
mutual
def spec_doTimes.l0 : Nat → List (List Int) → List (List Int) → List (List Int) → Int → Int → Option ((List (List Int)))
 | 0, _, _, _, _, _ => none
 | k + 1, x0, x1, x5, x13, x14 => if x14 < x13 then (spec_doTimes.l1 k x0 x1 x5 x14 x13 x14 (x0.length : Int) 0) else (some x5)
def spec_doTimes.l1 : Nat → List (List Int) → List (List Int) → List (List Int) → Int → Int → Int → Int → Int → Option ((List (List Int)))
 | 0, _, _, _, _, _, _, _, _ => none
 | k + 1, x0, x1, x5, x6, x13, x14, x18, x19 => if x19 < x18 then (spec_doTimes.l2 k x0 x1 x5 x6 x19 x13 x14 x18 x19 (x0.length : Int) 0) else (spec_doTimes.l0 k x0 x1 x5 x13 (wrap64 (x14 + 1)))
def spec_doTimes.l2 : Nat → List (List Int) → List (List Int) → List (List Int) → Int → Int → Int → Int → Int → Int → Int → Int → Option ((List (List Int)))
 | 0, _, _, _, _, _, _, _, _, _, _, _ => none
 | k + 1, x0, x1, x5, x6, x7, x13, x14, x18, x19, x23, x24 => if x24 < x23 then (if 0 ≤ x6 then (if x6 < (x5.length : Int) then (if 0 ≤ x7 then (if x7 < ((rd_L1 x5 x6).length : Int) then (if x6 < (x0.length : Int) then (if 0 ≤ x24 then (if x24 < ((rd_L1 x0 x6).length : Int) then (if x24 < (x1.length : Int) then (if x7 < ((rd_L1 x1 x24).length : Int) then (spec_doTimes.l2 k x0 x1 (x5.set (x6 : Int).toNat ((rd_L1 x5 x6).set (x7 : Int).toNat (wrap64 ((rd (rd_L1 x5 x6) x7) + (wrap64 ((rd (rd_L1 x0 x6) x24) * (rd (rd_L1 x1 x24) x7))))))) x6 x7 x13 x14 x18 x19 x23 (wrap64 (x24 + 1))) else (none)) else (none)) else (none)) else (none)) else (none)) else (none)) else (none)) else (none)) else (none)) else (spec_doTimes.l1 k x0 x1 x5 x6 x13 x14 x18 (wrap64 (x19 + 1)))
end
def spec_doTimes.f (k : Nat) (l0 : List (List Int)) (l1 : List (List Int)) : Option ((List (List Int))) := (spec_doEmpty.f k (l0.length : Int)).bind fun t191 => (spec_doTimes.l0 k l0 l1 t191 (l0.length : Int) 0)
def spec_doTimes.T11 : Bool × List (List Nat × List Nat) := (true, [([], []), ([], []), ([0, 1], [0, 1]), ([2], [2]), ([], []), ([3, 4], [3, 4]), ([5], [5]), ([], []), ([], []), ([7, 8], [7, 8]), ([9], [9]), ([], []), ([10, 11], [10, 11]), ([12], [12]), ([], []), ([], []), ([14, 15], [14, 15]), ([16], [16]), ([], []), ([17, 18], [17, 18]), ([19], [19]), ([13, 20], [13, 20]), ([6, 21], [6, 21]), ([3, 4, 0, 1, 2, 3, 4, 5, 6, 7, 8, 9, 10, 11, 12, 13, 14, 15, 16, 17, 18, 19, 20, 21, 22], [3, 4]), ([23, 22, 0, 1, 2, 3, 4, 5, 6, 7, 8, 9, 10, 11, 12, 13, 14, 15, 16, 17, 18, 19, 20, 21, 22], [22, 23])])
def spec_doTimes.B11 : List Nat := [0, 0, 3, 7, 0, 31, 63, 0, 0, 384, 896, 0, 3968, 8064, 0, 0, 49152, 114688, 0, 507904, 1032192, 2097024, 4194303, 8388607, 16777215]
theorem spec_doTimes.tab11 : rtab .any (opsOf Try.f17 11) = spec_doTimes.T11 := by kernel_rfl
theorem spec_doTimes.bits11 : waitsOk spec_doTimes.T11.2 spec_doTimes.B11 = true := by kernel_rfl
set_option maxHeartbeats 8000000 in
set_option maxRecDepth 100000 in
theorem spec_doTimes.calls (k : Nat) (A0 : Option Addr) (c0 : Nat) (l0 : List (List Int)) (A1 : Option Addr) (c1 : Nat) (l1 : List (List Int)) (r : List (List Int)) (w : World) (hr0 : Kd.C (Kd.slice 3 (Kd.int .i64)) w A0 l0.length l0) (hc0 : l0.length ≤ c0) (hr1 : Kd.C (Kd.slice 3 (Kd.int .i64)) w A1 l1.length l1) (hc1 : l1.length ≤ c1) (h : spec_doTimes.f k l0 l1 = some r) :
 Calls Try.prog 17 #[.slice A0 l0.length c0, .slice A1 l1.length c1] w fun e w' => ∃ v0_ : Value, e = .returned (v0_) ∧ Kd.S (Kd.slice 3 (Kd.int .i64)) 22 w' w.heap.size (fun _ => True) v0_ r ∧ Below w.heap.size w w' := by
 have HR0 := Aside0.mk hr0
 have HC0 := Aside0.mk hc0
 clear hr0 hc0
 have HR1 := Aside0.mk hr1
 have HC1 := Aside0.mk hc1
 clear hr1 hc1
 have HB := Aside0.mk (Below.refl w.heap.size w)
 have H : ((spec_doEmpty.f k (l0.length : Int)).bind fun t191 => (spec_doTimes.l0 k l0 l1 t191 (l0.length : Int) 0)) = some r := h
 clear h
 replace H := Option.bind_eq_some_iff.mp H
 obtain ⟨t191, A30, H⟩ := H
 replace H : (spec_doTimes.l0 k l0 l1 t191 (l0.length : Int) 0) = some r := H
 have A3 := Aside0.mk A30
 clear A30
 have H' := Aside0.mk H
 clear H
 go_enter Try.func17, Try.ntmps17
 go_wp2_with (first | ((with_reducible refine gate_callee (f := 15) rfl ?_); refine goesL_ (some 11) rfl rfl Try.func15 (by kernel_rfl) rfl #[.int .i64 (l0.length : Int)] rfl (by (try simp only [List.map_toArray, List.map_cons, List.map_nil]); first | done | rfl | (simp only [List.length_drop, List.length_take]; rfl)) ?_; (with_reducible refine (spec_doEmpty.calls k (l0.length : Int) t191 _ A3.out).mono ?_); rintro e w4 ⟨v192, rfl, ho0, hb⟩; refine ⟨_, rfl, ?_⟩; have n0_ := Aside0.mk (Kd.S_lower ho0 (below_size (by repeat (first | (with_reducible first | exact HB.out | apply below_alloc | apply pw_below_drewN | apply below_drew1) | exact HB.out)))); have n1_ := Aside0.mk (below_step (by repeat (first | (with_reducible first | exact HB.out | apply below_alloc | apply pw_below_drewN | apply below_drew1) | exact HB.out)) hb); clear HB; have HO193 := n0_; have HB := n1_; clear n0_ n1_; (try clear hb); (try clear hb2); (try clear hk); (try clear hi); (try clear ho0)))
 go_loopg [14] k (fun kq v14 w' => ∃ (x5_1 : List (List Int)) (x14_1 : Int), v14 = .int .i64 x14_1 ∧ Aside0 (spec_doTimes.l0 kq l0 l1 x5_1 (l0.length : Int) x14_1 = some r) ∧ Aside0 (kq ≤ k) ∧ Aside0 (Kd.S (Kd.slice 3 (Kd.int .i64)) 22 w' w.heap.size (fun _ => True) v192 x5_1) ∧ Aside0 (Below w.heap.size w w'))
 case atStart => exact ⟨(t191), (0), (by first | rfl | (simp; done) | (simp [*]; done)), H', ⟨Nat.le_refl _⟩, ⟨by (with_reducible repeat (first | apply Kd.S_alloc | apply Kd.S_drewN | apply Kd.S_drew)); exact HO193.out⟩, ⟨by repeat (first | (with_reducible first | exact HB.out | apply below_alloc | apply pw_below_drewN | apply below_drew1) | exact HB.out)⟩⟩
 case round =>
  clear H'
  try clear c1
  try clear p2
  obtain ⟨x5_1, x14_1, rfl, HA, HK1, HO_5, HB⟩ := hrel
  cases gk with
  | zero => exact absurd HA.out (by simp [spec_doTimes.l0])
  | succ k1 =>
   have H := HA.out
   clear HA
   simp only [spec_doTimes.l0] at H
   by_cases c5 : x14_1 < (l0.length : Int)
   · rw [if_pos c5] at H
     have c5b0 : decide (x14_1 < (l0.length : Int)) = true := decide_eq_true c5
     clear c5
     have H' := Aside0.mk H
     clear H
     go_wp2
     go_loopg [19] k1 (fun kq v19 w' => ∃ (x5_2 : List (List Int)) (x19_2 : Int), v19 = .int .i64 x19_2 ∧ Aside0 (spec_doTimes.l1 kq l0 l1 x5_2 x14_1 (l0.length : Int) x14_1 (l0.length : Int) x19_2 = some r) ∧ Aside0 (kq ≤ k1) ∧ Aside0 (Kd.S (Kd.slice 3 (Kd.int .i64)) 22 w' w.heap.size (fun _ => True) v192 x5_2) ∧ Aside0 (Below w.heap.size w w'))
     case atStart => exact ⟨(x5_1), (0), (by first | rfl | (simp; done) | (simp [*]; done)), H', ⟨Nat.le_refl _⟩, ⟨by (with_reducible repeat (first | apply Kd.S_alloc | apply Kd.S_drewN | apply Kd.S_drew)); exact HO_5.out⟩, ⟨by repeat (first | (with_reducible first | exact HB.out | apply below_alloc | apply pw_below_drewN | apply below_drew1) | exact HB.out)⟩⟩
     case round =>
      clear H'
      try clear c1
      try clear p2
      try clear c5
      try clear c5b0
      try clear p2
      obtain ⟨x5_2, x19_2, rfl, HA, HK2, HO_5, HB⟩ := hrel
      cases gk with
      | zero => exact absurd HA.out (by simp [spec_doTimes.l1])
      | succ k2 =>
       have H := HA.out
       clear HA
       simp only [spec_doTimes.l1] at H
       by_cases c6 : x19_2 < (l0.length : Int)
       · rw [if_pos c6] at H
         have c6b0 : decide (x19_2 < (l0.length : Int)) = true := decide_eq_true c6
         clear c6
         have H' := Aside0.mk H
         clear H
         go_wp2
         go_loopg [24] k2 (fun kq v24 w' => ∃ (x5_3 : List (List Int)) (x24_3 : Int), v24 = .int .i64 x24_3 ∧ Aside0 (spec_doTimes.l2 kq l0 l1 x5_3 x14_1 x19_2 (l0.length : Int) x14_1 (l0.length : Int) x19_2 (l0.length : Int) x24_3 = some r) ∧ Aside0 (kq ≤ k2) ∧ Aside0 (Kd.S (Kd.slice 3 (Kd.int .i64)) 22 w' w.heap.size (fun _ => True) v192 x5_3) ∧ Aside0 (Below w.heap.size w w'))
         case atStart => exact ⟨(x5_2), (0), (by first | rfl | (simp; done) | (simp [*]; done)), H', ⟨Nat.le_refl _⟩, ⟨by (with_reducible repeat (first | apply Kd.S_alloc | apply Kd.S_drewN | apply Kd.S_drew)); exact HO_5.out⟩, ⟨by repeat (first | (with_reducible first | exact HB.out | apply below_alloc | apply pw_below_drewN | apply below_drew1) | exact HB.out)⟩⟩
         case round =>
          clear H'
          try clear c1
          try clear p2
          try clear c5
          try clear c5b0
          try clear c6
          try clear c6b0
          try clear p2
          obtain ⟨x5_3, x24_3, rfl, HA, HK3, HO_5, HB⟩ := hrel
          cases gk with
          | zero => exact absurd HA.out (by simp [spec_doTimes.l2])
          | succ k3 =>
           have H := HA.out
           clear HA
           simp only [spec_doTimes.l2] at H
           by_cases c7 : x24_3 < (l0.length : Int)
           · rw [if_pos c7] at H
             have c7b0 : decide (x24_3 < (l0.length : Int)) = true := decide_eq_true c7
             clear c7
             by_cases c8 : 0 ≤ x14_1
             · rw [if_pos c8] at H
               have c8b0 : decide (0 ≤ x14_1) = true := decide_eq_true c8
               clear c8
               by_cases c9 : x14_1 < (x5_3.length : Int)
               · rw [if_pos c9] at H
                 have c9b0 : decide (x14_1 < (x5_3.length : Int)) = true := decide_eq_true c9
                 clear c9
                 by_cases c10 : 0 ≤ x19_2
                 · rw [if_pos c10] at H
                   have c10b0 : decide (0 ≤ x19_2) = true := decide_eq_true c10
                   clear c10
                   by_cases c11 : x19_2 < ((rd_L1 x5_3 x14_1).length : Int)
                   · rw [if_pos c11] at H
                     have c11b0 : decide (x19_2 < ((rd_L1 x5_3 x14_1).length : Int)) = true := decide_eq_true c11
                     clear c11
                     by_cases c12 : x14_1 < (l0.length : Int)
                     · rw [if_pos c12] at H
                       have c12b0 : decide (x14_1 < (l0.length : Int)) = true := decide_eq_true c12
                       clear c12
                       by_cases c13 : 0 ≤ x24_3
                       · rw [if_pos c13] at H
                         have c13b0 : decide (0 ≤ x24_3) = true := decide_eq_true c13
                         clear c13
                         by_cases c14 : x24_3 < ((rd_L1 l0 x14_1).length : Int)
                         · rw [if_pos c14] at H
                           have c14b0 : decide (x24_3 < ((rd_L1 l0 x14_1).length : Int)) = true := decide_eq_true c14
                           clear c14
                           by_cases c15 : x24_3 < (l1.length : Int)
                           · rw [if_pos c15] at H
                             have c15b0 : decide (x24_3 < (l1.length : Int)) = true := decide_eq_true c15
                             clear c15
                             by_cases c16 : x19_2 < ((rd_L1 l1 x24_3).length : Int)
                             · rw [if_pos c16] at H
                               have c16b0 : decide (x19_2 < ((rd_L1 l1 x24_3).length : Int)) = true := decide_eq_true c16
                               clear c16
                               obtain ⟨y200, hy200⟩ : ∃ y_ : List Int, y_ = ((rd_L1 x5_3 x14_1).set (x19_2 : Int).toNat (wrap64 ((rd (rd_L1 x5_3 x14_1) x19_2) + (wrap64 ((rd (rd_L1 l0 x14_1) x24_3) * (rd (rd_L1 l1 x24_3) x19_2)))))) := ⟨_, rfl⟩
                               replace H : (spec_doTimes.l2 k3 l0 l1 (x5_3.set (x14_1 : Int).toNat y200) x14_1 x19_2 (l0.length : Int) x14_1 (l0.length : Int) x19_2 (l0.length : Int) (wrap64 (x24_3 + 1))) = some r := by first | (rw [hy200]; with_reducible exact H) | (have H2_ := (Option.bind_some _ _).symm.trans H; rw [hy200]; with_reducible exact H2_) | (have H2_ := (Option.bind_some _ _).symm.trans H; with_reducible exact H2_) | with_reducible exact H | (rw [hy200]; exact H) | exact H
                               have Ny200 := Aside0.mk hy200
                               clear hy200
                               obtain ⟨y202, hy202⟩ : ∃ y_ : List (List Int), y_ = (x5_3.set (x14_1 : Int).toNat y200) := ⟨_, rfl⟩
                               replace H : (spec_doTimes.l2 k3 l0 l1 y202 x14_1 x19_2 (l0.length : Int) x14_1 (l0.length : Int) x19_2 (l0.length : Int) (wrap64 (x24_3 + 1))) = some r := by first | (rw [hy202]; with_reducible exact H) | (have H2_ := (Option.bind_some _ _).symm.trans H; rw [hy202]; with_reducible exact H2_) | (have H2_ := (Option.bind_some _ _).symm.trans H; with_reducible exact H2_) | with_reducible exact H | (rw [hy202]; exact H) | exact H
                               have Ny202 := Aside0.mk hy202
                               clear hy202
                               have H' := Aside0.mk H
                               clear H
                               try go_wp2
                               have n0_ := Aside0.mk (Kd.S_drew HO_5.out)
                               have n1_ := Aside0.mk (below_drew1 HB.out)
                               clear HO_5
                               clear HB
                               have HO_5 := n0_
                               have HB := n1_
                               clear n0_ n1_
                               obtain ⟨Ao19, co19, eo19⟩ := Kd.S_slice HO_5.out
                               (first | subst eo19 | (injection eo19 with f1_ f2_ f3_; have f4_ := f1_.symm; have f5_ := f3_.symm; clear f1_ f2_ f3_; subst f4_; subst f5_))
                               have p194 : 0 ≤ (x14_1 : Int) := of_decide_eq_true (by first | (with_reducible assumption) | assumption)
                               have q194 : x14_1 < (x5_3.length : Int) := of_decide_eq_true (by first | (with_reducible assumption) | assumption)
                               obtain ⟨ad194, A194_0, c194_0, e194, hx194_0, hl194_0, hi194_0⟩ := at_L1 (Kd.S_reads' HO_5.out).2.2 x14_1 p194 q194
                               cases e194
                               obtain ⟨ce194, hce194, hMe194, hcc194⟩ := Kd.S_get HO_5.out [] x14_1 p194 (by first | exact q194 | exact of_decide_eq_true (by first | (with_reducible assumption) | assumption) | (have e_ := (Kd.S_reads' HO_5.out).1; omega))
                               obtain ⟨ve194_0, rfl, ge194_0⟩ := hMe194
                               have hv194_0 := hcc194 0 _ rfl
                               rw [Nat.add_zero, show ((Kd.slice 3 (Kd.int .i64))).sz = 1 from rfl, Nat.mul_one] at hv194_0
                               replace hv194_0 := Option.some.inj (hv194_0.symm.trans hx194_0)
                               rw [hv194_0] at ge194_0
                               have HL194_0 := Aside0.mk (show Kd.R (Kd.int .i64) 3 _ _ _ _ (rd_L1 x5_3 x14_1) from ge194_0)
                               clear hv194_0 ge194_0
                               have HX194_0 := Aside0.mk hx194_0
                               clear hcc194 hce194
                               have HR194_0 := Aside0.mk hi194_0
                               have HC194_0 := Aside0.mk hl194_0
                               clear hi194_0 hl194_0
                               replace p194 := eq_true p194
                               replace q194 := eq_true q194
                               have p195 : 0 ≤ (x19_2 : Int) := of_decide_eq_true (by first | (with_reducible assumption) | assumption)
                               have q195 : x19_2 < ((rd_L1 x5_3 x14_1).length : Int) := of_decide_eq_true (by first | (with_reducible assumption) | assumption)
                               obtain ⟨ad195, e195, hx195_0⟩ := Kd.at_int (by repeat (first | (with_reducible exact HR194_0.out) | (with_reducible refine Kd.C_alloc ?_ _) | (with_reducible refine Kd.C_drewN ?_ _) | (with_reducible refine Kd.C_drew ?_) | exact HR194_0.out)) x19_2 p195 q195
                               cases e195
                               replace p195 := eq_true p195
                               replace q195 := eq_true q195
                               have p196 : 0 ≤ (x14_1 : Int) := of_decide_eq_true (by first | (with_reducible assumption) | assumption)
                               have q196 : x14_1 < (l0.length : Int) := of_decide_eq_true (by first | (with_reducible assumption) | assumption)
                               obtain ⟨ad196, A196_0, c196_0, e196, hx196_0, hl196_0, hi196_0⟩ := at_L1 HR0.out x14_1 p196 q196
                               have hw196_0 := hx196_0
                               cases e196
                               replace hx196_0 := (HB.out.cell (World.block_lt_of_cell? w _ hx196_0)).trans hx196_0
                               have HR196_0 := Aside0.mk hi196_0
                               have HC196_0 := Aside0.mk hl196_0
                               clear hi196_0 hl196_0
                               replace p196 := eq_true p196
                               replace q196 := eq_true q196
                               have p197 : 0 ≤ (x24_3 : Int) := of_decide_eq_true (by first | (with_reducible assumption) | assumption)
                               have q197 : x24_3 < ((rd_L1 l0 x14_1).length : Int) := of_decide_eq_true (by first | (with_reducible assumption) | assumption)
                               obtain ⟨ad197, e197, hx197_0⟩ := Kd.at_int HR196_0.out x24_3 p197 q197
                               have hw197_0 := hx197_0
                               cases e197
                               replace hx197_0 := (HB.out.cell (World.block_lt_of_cell? w _ hx197_0)).trans hx197_0
                               replace p197 := eq_true p197
                               replace q197 := eq_true q197
                               have p198 : 0 ≤ (x24_3 : Int) := of_decide_eq_true (by first | (with_reducible assumption) | assumption)
                               have q198 : x24_3 < (l1.length : Int) := of_decide_eq_true (by first | (with_reducible assumption) | assumption)
                               obtain ⟨ad198, A198_0, c198_0, e198, hx198_0, hl198_0, hi198_0⟩ := at_L1 HR1.out x24_3 p198 q198
                               have hw198_0 := hx198_0
                               cases e198
                               replace hx198_0 := (HB.out.cell (World.block_lt_of_cell? w _ hx198_0)).trans hx198_0
                               have HR198_0 := Aside0.mk hi198_0
                               have HC198_0 := Aside0.mk hl198_0
                               clear hi198_0 hl198_0
                               replace p198 := eq_true p198
                               replace q198 := eq_true q198
                               have p199 : 0 ≤ (x19_2 : Int) := of_decide_eq_true (by first | (with_reducible assumption) | assumption)
                               have q199 : x19_2 < ((rd_L1 l1 x24_3).length : Int) := of_decide_eq_true (by first | (with_reducible assumption) | assumption)
                               obtain ⟨ad199, e199, hx199_0⟩ := Kd.at_int HR198_0.out x19_2 p199 q199
                               have hw199_0 := hx199_0
                               cases e199
                               replace hx199_0 := (HB.out.cell (World.block_lt_of_cell? w _ hx199_0)).trans hx199_0
                               replace p199 := eq_true p199
                               replace q199 := eq_true q199
                               have p17 : 0 ≤ (x19_2 : Int) := of_decide_eq_true (by first | (with_reducible assumption) | assumption)
                               have q17 : (x19_2 : Int) < (((rd_L1 x5_3 x14_1).length : Int) : Int) := of_decide_eq_true (by first | (with_reducible assumption) | assumption)
                               obtain ⟨go17, co17, eo17, gb17, gl17, cl17, HG17⟩ := Kd.R_form HL194_0.out (by omega)
                               (first | cases eo17 | (injection eo17 with ea_ en_ ec_; (first | subst ea_ | (injection ea_ with ea_; subst ea_)); subst ec_; clear en_))
                               have GB17 := Aside0.mk gb17
                               have GG17 := Aside0.mk HG17
                               clear gb17 gl17 HG17
                               (first | simp only [add_plain] at hx195_0 | skip)
                               obtain ⟨hx17_0, hf17_0⟩ := Kd.R_celln 0 HL194_0.out (x19_2 : Int) p17 q17
                               replace p17 := eq_true p17
                               replace q17 := eq_true q17
                               have hq20 : (x14_1 : Int) < (x5_3.length : Int) := (by have h_ : (x14_1 : Int) < ((x5_3.length : Int) : Int) := of_decide_eq_true (by first | (with_reducible assumption) | assumption); first | exact h_ | (have e_ := (Kd.S_reads' HO_5.out).1; omega) | simpa only [List.length_set, List.length_set] using h_)
                               obtain ⟨oki20, ce20, hcl20, hM20, hcc20, hok20, hbk20⟩ := Kd.S_borrow HO_5.out [] (x14_1 : Int) (of_decide_eq_true (by first | (with_reducible assumption) | assumption)) (by first | exact hq20 | (have e_ := (Kd.S_reads' HO_5.out).1; omega))
                               obtain ⟨ve20_0, rfl, ge20_0⟩ := hM20
                               have hv20 := hcc20 0 _ rfl
                               rw [Nat.add_zero, show ((Kd.slice 3 (Kd.int .i64))).sz = 1 from rfl, Nat.mul_one] at hv20
                               replace hv20 := Option.some.inj (hv20.symm.trans HX194_0.out)
                               subst hv20
                               clear hcc20 hcl20
                               replace ge20_0 := (show Kd.R (Kd.int .i64) 3 _ _ _ _ (rd_L1 x5_3 x14_1) from ge20_0)
                               have HP20 := Kd.R_putg ge20_0 (x19_2 : Int) (wrap64 ((rd (rd_L1 x5_3 x14_1) x19_2) + (wrap64 ((rd (rd_L1 l0 x14_1) x24_3) * (rd (rd_L1 l1 x24_3) x19_2)))))
                               rw [← Ny200.out] at HP20
                               have HS20 := hbk20 HP20.2 (fun k_ e_ => by injection e_ with e_; subst e_; exact ge20_0.1 _ rfl) (x' := y200) (Kd.M_row HP20.1)
                               rw [← Ny202.out] at HS20
                               have HQ20 := Aside0.mk HS20
                               clear HP20 HS20 hbk20 hok20
                               refine start_ (n := 25) (S := fun w' => w'.cell? (ad194.add (x14_1).toNat) = some (.slice (some ⟨go17, 0, none⟩) (rd_L1 x5_3 x14_1).length c194_0) ∧ w'.cell? ⟨go17, (x19_2).toNat, none⟩ = some (.int .i64 (rd (rd_L1 x5_3 x14_1) x19_2)) ∧ w'.cell? (ad196.add (x14_1).toNat) = some (.slice (some ad197) (rd_L1 l0 x14_1).length c196_0) ∧ w'.cell? (ad197.add (x24_3).toNat) = some (.int .i64 (rd (rd_L1 l0 x14_1) x24_3)) ∧ w'.cell? (ad198.add (x24_3).toNat) = some (.slice (some ad199) (rd_L1 l1 x24_3).length c198_0) ∧ w'.cell? (ad199.add (x19_2).toNat) = some (.int .i64 (rd (rd_L1 l1 x24_3) x19_2))) (ds := [24]) #[false, false, false, false, false, false, false, false, false, false, false, false, false, false, false, false, false, false, false, false, false, false, false, false, false] (by kernel_rfl) rfl rfl ⟨hx194_0, hx195_0, ((HB.out.cell (World.block_lt_of_cell? w _ hw196_0)).trans hw196_0), ((HB.out.cell (World.block_lt_of_cell? w _ hw197_0)).trans hw197_0), ((HB.out.cell (World.block_lt_of_cell? w _ hw198_0)).trans hw198_0), ((HB.out.cell (World.block_lt_of_cell? w _ hw199_0)).trans hw199_0)⟩ (fun hHeld => ?_); refine with_tabW spec_doTimes.tab11 spec_doTimes.bits11 (fun HT_ HW_ => ?_)
                               generalize wr.drew = w18 at HO_5 HB GG17 HL194_0 HQ20 HR194_0 HR196_0 HR198_0 HX194_0 hf17_0 hx17_0 hx194_0 hx195_0 hx196_0 hx197_0 hx198_0 hx199_0 hHeld ⊢
                               refine pure_ (i := 0) (N := some 27) (v := ?_) (a' := ?_) #[true, false, false, false, false, false, false, false, false, false, false, false, false, false, false, false, false, false, false, false, false, false, false, false, false] rfl rfl (any_of HT_.out (by kernel_rfl)) (fun _ _ _ h => h) (Or.inl ⟨by rfl, ?_⟩) ?_ ?_
                               rotate_left
                               · intro w'
                                 go_simp
                                 with_reducible rfl
                               rotate_left
                               · simp only [Act.put, List.setIfInBounds_toArray, List.set_cons_zero, List.set_cons_succ, i64_w, i32_w]
                                 rfl
                               refine pure_ (i := 1) (N := some 28) (v := ?_) (a' := ?_) #[true, true, false, false, false, false, false, false, false, false, false, false, false, false, false, false, false, false, false, false, false, false, false, false, false] rfl rfl (any_of HT_.out (by kernel_rfl)) (fun _ _ _ h => h) (Or.inl ⟨by rfl, ?_⟩) ?_ ?_
                               rotate_left
                               · intro w'
                                 go_simp
                                 with_reducible rfl
                               rotate_left
                               · simp only [Act.put, List.setIfInBounds_toArray, List.set_cons_zero, List.set_cons_succ, i64_w, i32_w]
                                 rfl
                               refine pure_ (i := 2) (N := some 29) (v := ?_) (a' := ?_) #[true, true, true, false, false, false, false, false, false, false, false, false, false, false, false, false, false, false, false, false, false, false, false, false, false] rfl rfl (any_of HT_.out (by kernel_rfl)) (fun _ _ _ h => h) (Or.inl ⟨by rfl, ?_⟩) ?_ ?_
                               rotate_left
                               · intro w'
                                 go_simp
                                 with_reducible rfl
                               rotate_left
                               · simp only [Act.put, List.setIfInBounds_toArray, List.set_cons_zero, List.set_cons_succ, i64_w, i32_w]
                                 rfl
                               refine pure_ (i := 4) (N := some 31) (v := ?_) (a' := ?_) #[true, true, true, false, true, false, false, false, false, false, false, false, false, false, false, false, false, false, false, false, false, false, false, false, false] rfl rfl (any_of HT_.out (by kernel_rfl)) (fun _ _ _ h => h) (Or.inl ⟨by rfl, ?_⟩) ?_ ?_
                               rotate_left
                               · intro w'
                                 go_simp
                                 with_reducible rfl
                               rotate_left
                               · simp only [Act.put, List.setIfInBounds_toArray, List.set_cons_zero, List.set_cons_succ, i64_w, i32_w]
                                 rfl
                               refine pure_ (i := 7) (N := some 34) (v := ?_) (a' := ?_) #[true, true, true, false, true, false, false, true, false, false, false, false, false, false, false, false, false, false, false, false, false, false, false, false, false] rfl rfl (any_of HT_.out (by kernel_rfl)) (fun _ _ _ h => h) (Or.inl ⟨by rfl, ?_⟩) ?_ ?_
                               rotate_left
                               · intro w'
                                 go_simp
                                 with_reducible rfl
                               rotate_left
                               · simp only [Act.put, List.setIfInBounds_toArray, List.set_cons_zero, List.set_cons_succ, i64_w, i32_w]
                                 rfl
                               refine pure_ (i := 8) (N := some 35) (v := ?_) (a' := ?_) #[true, true, true, false, true, false, false, true, true, false, false, false, false, false, false, false, false, false, false, false, false, false, false, false, false] rfl rfl (any_of HT_.out (by kernel_rfl)) (fun _ _ _ h => h) (Or.inl ⟨by rfl, ?_⟩) ?_ ?_
                               rotate_left
                               · intro w'
                                 go_simp
                                 with_reducible rfl
                               rotate_left
                               · simp only [Act.put, List.setIfInBounds_toArray, List.set_cons_zero, List.set_cons_succ, i64_w, i32_w]
                                 rfl
                               refine pure_ (i := 9) (N := some 36) (v := ?_) (a' := ?_) #[true, true, true, false, true, false, false, true, true, true, false, false, false, false, false, false, false, false, false, false, false, false, false, false, false] rfl rfl (any_of HT_.out (by kernel_rfl)) (fun _ _ _ h => h) (Or.inl ⟨by rfl, ?_⟩) ?_ ?_
                               rotate_left
                               · intro w'
                                 go_simp
                                 with_reducible rfl
                               rotate_left
                               · simp only [Act.put, List.setIfInBounds_toArray, List.set_cons_zero, List.set_cons_succ, i64_w, i32_w]
                                 rfl
                               refine pure_ (i := 11) (N := some 38) (v := ?_) (a' := ?_) #[true, true, true, false, true, false, false, true, true, true, false, true, false, false, false, false, false, false, false, false, false, false, false, false, false] rfl rfl (any_of HT_.out (by kernel_rfl)) (fun _ _ _ h => h) (Or.inl ⟨by rfl, ?_⟩) ?_ ?_
                               rotate_left
                               · intro w'
                                 go_simp
                                 with_reducible rfl
                               rotate_left
                               · simp only [Act.put, List.setIfInBounds_toArray, List.set_cons_zero, List.set_cons_succ, i64_w, i32_w]
                                 rfl
                               refine pure_ (i := 14) (N := some 41) (v := ?_) (a' := ?_) #[true, true, true, false, true, false, false, true, true, true, false, true, false, false, true, false, false, false, false, false, false, false, false, false, false] rfl rfl (any_of HT_.out (by kernel_rfl)) (fun _ _ _ h => h) (Or.inl ⟨by rfl, ?_⟩) ?_ ?_
                               rotate_left
                               · intro w'
                                 go_simp
                                 with_reducible rfl
                               rotate_left
                               · simp only [Act.put, List.setIfInBounds_toArray, List.set_cons_zero, List.set_cons_succ, i64_w, i32_w]
                                 rfl
                               refine pure_ (i := 15) (N := some 42) (v := ?_) (a' := ?_) #[true, true, true, false, true, false, false, true, true, true, false, true, false, false, true, true, false, false, false, false, false, false, false, false, false] rfl rfl (any_of HT_.out (by kernel_rfl)) (fun _ _ _ h => h) (Or.inl ⟨by rfl, ?_⟩) ?_ ?_
                               rotate_left
                               · intro w'
                                 go_simp
                                 with_reducible rfl
                               rotate_left
                               · simp only [Act.put, List.setIfInBounds_toArray, List.set_cons_zero, List.set_cons_succ, i64_w, i32_w]
                                 rfl
                               refine pure_ (i := 16) (N := some 43) (v := ?_) (a' := ?_) #[true, true, true, false, true, false, false, true, true, true, false, true, false, false, true, true, true, false, false, false, false, false, false, false, false] rfl rfl (any_of HT_.out (by kernel_rfl)) (fun _ _ _ h => h) (Or.inl ⟨by rfl, ?_⟩) ?_ ?_
                               rotate_left
                               · intro w'
                                 go_simp
                                 with_reducible rfl
                               rotate_left
                               · simp only [Act.put, List.setIfInBounds_toArray, List.set_cons_zero, List.set_cons_succ, i64_w, i32_w]
                                 rfl
                               refine pure_ (i := 18) (N := some 45) (v := ?_) (a' := ?_) #[true, true, true, false, true, false, false, true, true, true, false, true, false, false, true, true, true, false, true, false, false, false, false, false, false] rfl rfl (any_of HT_.out (by kernel_rfl)) (fun _ _ _ h => h) (Or.inl ⟨by rfl, ?_⟩) ?_ ?_
                               rotate_left
                               · intro w'
                                 go_simp
                                 with_reducible rfl
                               rotate_left
                               · simp only [Act.put, List.setIfInBounds_toArray, List.set_cons_zero, List.set_cons_succ, i64_w, i32_w]
                                 rfl
                               refine take_ (i := 3) (N := some 30) (v := ?_) (a' := ?_) #[true, true, true, true, true, false, false, true, true, true, false, true, false, false, true, true, true, false, true, false, false, false, false, false, false] rfl rfl (take_ofW HT_.out HW_.out (by kernel_rfl)) (fun _ _ _ h => h) (Or.inl ⟨by rfl, ?_⟩) hHeld ?_ ?_
                               rotate_left
                               · rintro w' ⟨s0, s1, s2, s3, s4, s5⟩
                                 go_simp
                                 with_reducible rfl
                               rotate_left
                               · simp only [Act.put, List.setIfInBounds_toArray, List.set_cons_zero, List.set_cons_succ, i64_w, i32_w]
                                 rfl
                               refine pure_ (i := 5) (N := some 32) (v := ?_) (a' := ?_) #[true, true, true, true, true, true, false, true, true, true, false, true, false, false, true, true, true, false, true, false, false, false, false, false, false] rfl rfl (any_of HT_.out (by kernel_rfl)) (fun _ _ _ h => h) (Or.inl ⟨by rfl, ?_⟩) ?_ ?_
                               rotate_left
                               · intro w'
                                 go_simp
                                 with_reducible rfl
                               rotate_left
                               · simp only [Act.put, List.setIfInBounds_toArray, List.set_cons_zero, List.set_cons_succ, i64_w, i32_w]
                                 rfl
                               refine take_ (i := 6) (N := some 33) (v := ?_) (a' := ?_) #[true, true, true, true, true, true, true, true, true, true, false, true, false, false, true, true, true, false, true, false, false, false, false, false, false] rfl rfl (take_ofW HT_.out HW_.out (by kernel_rfl)) (fun _ _ _ h => h) (Or.inl ⟨by rfl, ?_⟩) hHeld ?_ ?_
                               rotate_left
                               · rintro w' ⟨s0, s1, s2, s3, s4, s5⟩
                                 go_simp
                                 with_reducible rfl
                               rotate_left
                               · simp only [Act.put, List.setIfInBounds_toArray, List.set_cons_zero, List.set_cons_succ, i64_w, i32_w]
                                 rfl
                               refine take_ (i := 10) (N := some 37) (v := ?_) (a' := ?_) #[true, true, true, true, true, true, true, true, true, true, true, true, false, false, true, true, true, false, true, false, false, false, false, false, false] rfl rfl (take_ofW HT_.out HW_.out (by kernel_rfl)) (fun _ _ _ h => h) (Or.inl ⟨by rfl, ?_⟩) hHeld ?_ ?_
                               rotate_left
                               · rintro w' ⟨s0, s1, s2, s3, s4, s5⟩
                                 go_simp
                                 with_reducible rfl
                               rotate_left
                               · simp only [Act.put, List.setIfInBounds_toArray, List.set_cons_zero, List.set_cons_succ, i64_w, i32_w]
                                 rfl
                               refine pure_ (i := 12) (N := some 39) (v := ?_) (a' := ?_) #[true, true, true, true, true, true, true, true, true, true, true, true, true, false, true, true, true, false, true, false, false, false, false, false, false] rfl rfl (any_of HT_.out (by kernel_rfl)) (fun _ _ _ h => h) (Or.inl ⟨by rfl, ?_⟩) ?_ ?_
                               rotate_left
                               · intro w'
                                 go_simp
                                 with_reducible rfl
                               rotate_left
                               · simp only [Act.put, List.setIfInBounds_toArray, List.set_cons_zero, List.set_cons_succ, i64_w, i32_w]
                                 rfl
                               refine take_ (i := 13) (N := some 40) (v := ?_) (a' := ?_) #[true, true, true, true, true, true, true, true, true, true, true, true, true, true, true, true, true, false, true, false, false, false, false, false, false] rfl rfl (take_ofW HT_.out HW_.out (by kernel_rfl)) (fun _ _ _ h => h) (Or.inl ⟨by rfl, ?_⟩) hHeld ?_ ?_
                               rotate_left
                               · rintro w' ⟨s0, s1, s2, s3, s4, s5⟩
                                 go_simp
                                 with_reducible rfl
                               rotate_left
                               · simp only [Act.put, List.setIfInBounds_toArray, List.set_cons_zero, List.set_cons_succ, i64_w, i32_w]
                                 rfl
                               refine take_ (i := 17) (N := some 44) (v := ?_) (a' := ?_) #[true, true, true, true, true, true, true, true, true, true, true, true, true, true, true, true, true, true, true, false, false, false, false, false, false] rfl rfl (take_ofW HT_.out HW_.out (by kernel_rfl)) (fun _ _ _ h => h) (Or.inl ⟨by rfl, ?_⟩) hHeld ?_ ?_
                               rotate_left
                               · rintro w' ⟨s0, s1, s2, s3, s4, s5⟩
                                 go_simp
                                 with_reducible rfl
                               rotate_left
                               · simp only [Act.put, List.setIfInBounds_toArray, List.set_cons_zero, List.set_cons_succ, i64_w, i32_w]
                                 rfl
                               refine pure_ (i := 19) (N := some 46) (v := ?_) (a' := ?_) #[true, true, true, true, true, true, true, true, true, true, true, true, true, true, true, true, true, true, true, true, false, false, false, false, false] rfl rfl (any_of HT_.out (by kernel_rfl)) (fun _ _ _ h => h) (Or.inl ⟨by rfl, ?_⟩) ?_ ?_
                               rotate_left
                               · intro w'
                                 go_simp
                                 with_reducible rfl
                               rotate_left
                               · simp only [Act.put, List.setIfInBounds_toArray, List.set_cons_zero, List.set_cons_succ, i64_w, i32_w]
                                 rfl
                               refine take_ (i := 20) (N := some 47) (v := ?_) (a' := ?_) #[true, true, true, true, true, true, true, true, true, true, true, true, true, true, true, true, true, true, true, true, true, false, false, false, false] rfl rfl (take_ofW HT_.out HW_.out (by kernel_rfl)) (fun _ _ _ h => h) (Or.inl ⟨by rfl, ?_⟩) hHeld ?_ ?_
                               rotate_left
                               · rintro w' ⟨s0, s1, s2, s3, s4, s5⟩
                                 go_simp
                                 with_reducible rfl
                               rotate_left
                               · simp only [Act.put, List.setIfInBounds_toArray, List.set_cons_zero, List.set_cons_succ, i64_w, i32_w]
                                 rfl
                               refine pure_ (i := 21) (N := some 48) (v := ?_) (a' := ?_) #[true, true, true, true, true, true, true, true, true, true, true, true, true, true, true, true, true, true, true, true, true, true, false, false, false] rfl rfl (any_of HT_.out (by kernel_rfl)) (fun _ _ _ h => h) (Or.inl ⟨by rfl, ?_⟩) ?_ ?_
                               rotate_left
                               · intro w'
                                 go_simp
                                 with_reducible rfl
                               rotate_left
                               · simp only [Act.put, List.setIfInBounds_toArray, List.set_cons_zero, List.set_cons_succ, i64_w, i32_w]
                                 rfl
                               refine pure_ (i := 22) (N := some 49) (v := ?_) (a' := ?_) #[true, true, true, true, true, true, true, true, true, true, true, true, true, true, true, true, true, true, true, true, true, true, true, false, false] rfl rfl (any_of HT_.out (by kernel_rfl)) (fun _ _ _ h => h) (Or.inl ⟨by rfl, ?_⟩) ?_ ?_
                               rotate_left
                               · intro w'
                                 go_simp
                                 with_reducible rfl
                               rotate_left
                               · simp only [Act.put, List.setIfInBounds_toArray, List.set_cons_zero, List.set_cons_succ, i64_w, i32_w]
                                 rfl
                               refine pure_ (i := 23) (N := some 50) (v := ?_) (a' := ?_) #[true, true, true, true, true, true, true, true, true, true, true, true, true, true, true, true, true, true, true, true, true, true, true, true, false] rfl rfl (any_of HT_.out (by kernel_rfl)) (fun _ _ _ h => h) (Or.inl ⟨by rfl, ?_⟩) ?_ ?_
                               rotate_left
                               · intro w'
                                 go_simp
                                 with_reducible rfl
                               rotate_left
                               · simp only [Act.put, List.setIfInBounds_toArray, List.set_cons_zero, List.set_cons_succ, i64_w, i32_w]
                                 rfl
                               refine last_ (i := 24) (N := none) #[true, true, true, true, true, true, true, true, true, true, true, true, true, true, true, true, true, true, true, true, true, true, true, true, true] rfl rfl (one_of HT_.out (by kernel_rfl)) (by decide) (fun K hK => ?_)
                               refine skip_ (w1 := ?_) (by rfl) rfl ?_ ?_
                               rotate_left
                               · go_simp
                                 rfl
                               refine hK.out _ _ ?_
                               clear hK K
                               refine done_ (done_of HT_.out (by kernel_rfl)) ?_
                               try go_wp2
                               go_roundg k3
                               case measure => have := HK1.out; have := HK2.out; have := HK3.out; omega
                               case rel => exact ⟨(y202), (wrap64 (x24_3 + 1)), (by first | rfl | (simp; done) | (simp [*]; done)), H', ⟨by have := HK1.out; have := HK2.out; have := HK3.out; omega⟩, ⟨by (with_reducible repeat (first | apply Kd.S_alloc | apply Kd.S_drewN | apply Kd.S_drew)); exact HQ20.out⟩, ⟨by repeat (first | (with_reducible first | exact HB.out | apply below_alloc | apply pw_below_drewN | apply below_drew1 | refine below_set ?_ GB17.out) | exact HB.out)⟩⟩
                             · rw [if_neg c16] at H
                               exact absurd H (by simp)
                           · rw [if_neg c15] at H
                             exact absurd H (by simp)
                         · rw [if_neg c14] at H
                           exact absurd H (by simp)
                       · rw [if_neg c13] at H
                         exact absurd H (by simp)
                     · rw [if_neg c12] at H
                       exact absurd H (by simp)
                   · rw [if_neg c11] at H
                     exact absurd H (by simp)
                 · rw [if_neg c10] at H
                   exact absurd H (by simp)
               · rw [if_neg c9] at H
                 exact absurd H (by simp)
             · rw [if_neg c8] at H
               exact absurd H (by simp)
           · rw [if_neg c7] at H
             have c7b0 : decide (x24_3 < (l0.length : Int)) = false := decide_eq_false c7
             clear c7
             have H' := Aside0.mk H
             clear H
             go_wp2
             go_roundg k3
             case measure => have := HK1.out; have := HK2.out; have := HK3.out; omega
             case rel => exact ⟨(x5_3), (wrap64 (x19_2 + 1)), (by first | rfl | (simp; done) | (simp [*]; done)), H', ⟨by have := HK1.out; have := HK2.out; have := HK3.out; omega⟩, ⟨by (with_reducible repeat (first | apply Kd.S_alloc | apply Kd.S_drewN | apply Kd.S_drew)); exact HO_5.out⟩, ⟨by repeat (first | (with_reducible first | exact HB.out | apply below_alloc | apply pw_below_drewN | apply below_drew1) | exact HB.out)⟩⟩
       · rw [if_neg c6] at H
         have c6b0 : decide (x19_2 < (l0.length : Int)) = false := decide_eq_false c6
         clear c6
         have H' := Aside0.mk H
         clear H
         go_wp2
         go_roundg k2
         case measure => have := HK1.out; have := HK2.out; omega
         case rel => exact ⟨(x5_2), (wrap64 (x14_1 + 1)), (by first | rfl | (simp; done) | (simp [*]; done)), H', ⟨by have := HK1.out; have := HK2.out; omega⟩, ⟨by (with_reducible repeat (first | apply Kd.S_alloc | apply Kd.S_drewN | apply Kd.S_drew)); exact HO_5.out⟩, ⟨by repeat (first | (with_reducible first | exact HB.out | apply below_alloc | apply pw_below_drewN | apply below_drew1) | exact HB.out)⟩⟩
   · rw [if_neg c5] at H
     have c5b0 : decide (x14_1 < (l0.length : Int)) = false := decide_eq_false c5
     clear c5
     obtain rfl := Option.some.inj H
     go_wp2
     go_ret
     exact ⟨_, by first | rfl | (simp [errW_none, errW_some] <;> rfl) | (simp [*, errW_none, errW_some] <;> rfl), by (with_reducible repeat (first | apply Kd.S_alloc | apply Kd.S_drewN | apply Kd.S_drew)); exact HO_5.out, by repeat (first | (with_reducible first | exact HB.out | apply below_alloc | apply pw_below_drewN | apply below_drew1) | exact HB.out)⟩

end Go.Proofs.Ytmfpgimblifleaa.A

-- made by a program of this repo (wip/pp.py) through the kit's printer
namespace Go.Proofs.Ytmfpgimblifleaa.A
open Go.RowKit Go.Proofs.YtmfpgimblifleaaW.PrintWords Go.Proofs.YtmfpgimblifleaaW.PrintLast Go.Proofs.YtmfpgimblifleaaW.PrintMore
attribute [local go_sem] max2_int min2_int max_two min_two max_three min_three max_four min_four
set_option linter.unusedVariables false
set_option linter.unusedSimpArgs false

/-! ### spec_doGift: function 18 -/
def spec_doGift.l0 : Nat → Int → Int → Int → Int → Int → List (List Int) → Int → Option ((List (List Int)))
 | 0, _, _, _, _, _, _, _ => none
 | k + 1, x0, x1, x2, x3, x4, x11, x12 => if x12 < x0 then (if 0 ≤ x12 then (if x12 < (x11.length : Int) then (if x12 < ((rd_L1 x11 x12).length : Int) then (spec_doGift.l0 k x0 x1 x2 x3 x4 (x11.set (x12 : Int).toNat ((rd_L1 x11 x12).set (x12 : Int).toNat x3)) (wrap64 (x12 + 1))) else (none)) else (none)) else (none)) else (if 0 ≤ x1 then (if x1 < (x11.length : Int) then (if x1 < ((rd_L1 x11 x1).length : Int) then ((some (x11.set (x1 : Int).toNat ((rd_L1 x11 x1).set (x1 : Int).toNat (wrap64 (x3 - x4))) : List (List Int))).bind fun y213 => (if 0 ≤ x2 then (if x2 < (x11.length : Int) then (if x2 < ((rd_L1 y213 x2).length : Int) then ((some (y213.set (x2 : Int).toNat ((rd_L1 y213 x2).set (x2 : Int).toNat (wrap64 (x3 - x4))) : List (List Int))).bind fun y217 => (if x2 < ((rd_L1 y217 x1).length : Int) then ((some (y217.set (x1 : Int).toNat ((rd_L1 y217 x1).set (x2 : Int).toNat x4) : List (List Int))).bind fun y221 => (if x1 < ((rd_L1 y221 x2).length : Int) then (some (y221.set (x2 : Int).toNat ((rd_L1 y221 x2).set (x1 : Int).toNat x4))) else (none))) else (none))) else (none)) else (none)) else (none))) else (none)) else (none)) else (none))
def spec_doGift.f (k : Nat) (a0 : Int) (a1 : Int) (a2 : Int) (a3 : Int) (a4 : Int) : Option ((List (List Int))) := (spec_doEmpty.f k a0).bind fun t203 => (spec_doGift.l0 k a0 a1 a2 a3 a4 t203 0)
set_option maxHeartbeats 8000000 in
set_option maxRecDepth 100000 in
theorem spec_doGift.calls (k : Nat) (a0 : Int) (a1 : Int) (a2 : Int) (a3 : Int) (a4 : Int) (r : List (List Int)) (w : World) (h : spec_doGift.f k a0 a1 a2 a3 a4 = some r) :
 Calls Try.prog 18 #[.int .i64 a0, .int .i64 a1, .int .i64 a2, .int .i64 a3, .int .i64 a4] w fun e w' => ∃ v0_ : Value, e = .returned (v0_) ∧ Kd.S (Kd.slice 3 (Kd.int .i64)) 22 w' w.heap.size (fun _ => True) v0_ r ∧ Below w.heap.size w w' := by
 have HB := Aside0.mk (Below.refl w.heap.size w)
 have H : ((spec_doEmpty.f k a0).bind fun t203 => (spec_doGift.l0 k a0 a1 a2 a3 a4 t203 0)) = some r := h
 clear h
 replace H := Option.bind_eq_some_iff.mp H
 obtain ⟨t203, A60, H⟩ := H
 replace H : (spec_doGift.l0 k a0 a1 a2 a3 a4 t203 0) = some r := H
 have A6 := Aside0.mk A60
 clear A60
 have H' := Aside0.mk H
 clear H
 go_enter Try.func18, Try.ntmps18
 go_wp2_with (first | ((with_reducible refine gate_callee (f := 15) rfl ?_); refine goesL_ (some 14) rfl rfl Try.func15 (by kernel_rfl) rfl #[.int .i64 a0] rfl (by (try simp only [List.map_toArray, List.map_cons, List.map_nil]); first | done | rfl | (simp only [List.length_drop, List.length_take]; rfl)) ?_; (with_reducible refine (spec_doEmpty.calls k a0 t203 _ A6.out).mono ?_); rintro e w7 ⟨v204, rfl, ho0, hb⟩; refine ⟨_, rfl, ?_⟩; have n0_ := Aside0.mk (Kd.S_lower ho0 (below_size (by repeat (first | (with_reducible first | exact HB.out | apply below_alloc | apply pw_below_drewN | apply below_drew1) | exact HB.out)))); have n1_ := Aside0.mk (below_step (by repeat (first | (with_reducible first | exact HB.out | apply below_alloc | apply pw_below_drewN | apply below_drew1) | exact HB.out)) hb); clear HB; have HO205 := n0_; have HB := n1_; clear n0_ n1_; (try clear hb); (try clear hb2); (try clear hk); (try clear hi); (try clear ho0)))
 go_loopg [12] k (fun kq v12 w' => ∃ (x11_1 : List (List Int)) (x12_1 : Int), v12 = .int .i64 x12_1 ∧ Aside0 (spec_doGift.l0 kq a0 a1 a2 a3 a4 x11_1 x12_1 = some r) ∧ Aside0 (kq ≤ k) ∧ Aside0 (Kd.S (Kd.slice 3 (Kd.int .i64)) 22 w' w.heap.size (fun _ => True) v204 x11_1) ∧ Aside0 (Below w.heap.size w w'))
 case atStart => exact ⟨(t203), (0), (by first | rfl | (simp; done) | (simp [*]; done)), H', ⟨Nat.le_refl _⟩, ⟨by (with_reducible repeat (first | apply Kd.S_alloc | apply Kd.S_drewN | apply Kd.S_drew)); exact HO205.out⟩, ⟨by repeat (first | (with_reducible first | exact HB.out | apply below_alloc | apply pw_below_drewN | apply below_drew1) | exact HB.out)⟩⟩
 case round =>
  clear H'
  try clear c1
  try clear p2
  obtain ⟨x11_1, x12_1, rfl, HA, HK1, HO_11, HB⟩ := hrel
  cases gk with
  | zero => exact absurd HA.out (by simp [spec_doGift.l0])
  | succ k1 =>
   have H := HA.out
   clear HA
   simp only [spec_doGift.l0] at H
   by_cases c8 : x12_1 < a0
   · rw [if_pos c8] at H
     have c8b0 : decide (x12_1 < a0) = true := decide_eq_true c8
     clear c8
     by_cases c9 : 0 ≤ x12_1
     · rw [if_pos c9] at H
       have c9b0 : decide (0 ≤ x12_1) = true := decide_eq_true c9
       clear c9
       by_cases c10 : x12_1 < (x11_1.length : Int)
       · rw [if_pos c10] at H
         have c10b0 : decide (x12_1 < (x11_1.length : Int)) = true := decide_eq_true c10
         clear c10
         by_cases c11 : x12_1 < ((rd_L1 x11_1 x12_1).length : Int)
         · rw [if_pos c11] at H
           have c11b0 : decide (x12_1 < ((rd_L1 x11_1 x12_1).length : Int)) = true := decide_eq_true c11
           clear c11
           obtain ⟨y207, hy207⟩ : ∃ y_ : List Int, y_ = ((rd_L1 x11_1 x12_1).set (x12_1 : Int).toNat a3) := ⟨_, rfl⟩
           replace H : (spec_doGift.l0 k1 a0 a1 a2 a3 a4 (x11_1.set (x12_1 : Int).toNat y207) (wrap64 (x12_1 + 1))) = some r := by first | (rw [hy207]; with_reducible exact H) | (have H2_ := (Option.bind_some _ _).symm.trans H; rw [hy207]; with_reducible exact H2_) | (have H2_ := (Option.bind_some _ _).symm.trans H; with_reducible exact H2_) | with_reducible exact H | (rw [hy207]; exact H) | exact H
           have Ny207 := Aside0.mk hy207
           clear hy207
           obtain ⟨y209, hy209⟩ : ∃ y_ : List (List Int), y_ = (x11_1.set (x12_1 : Int).toNat y207) := ⟨_, rfl⟩
           replace H : (spec_doGift.l0 k1 a0 a1 a2 a3 a4 y209 (wrap64 (x12_1 + 1))) = some r := by first | (rw [hy209]; with_reducible exact H) | (have H2_ := (Option.bind_some _ _).symm.trans H; rw [hy209]; with_reducible exact H2_) | (have H2_ := (Option.bind_some _ _).symm.trans H; with_reducible exact H2_) | with_reducible exact H | (rw [hy209]; exact H) | exact H
           have Ny209 := Aside0.mk hy209
           clear hy209
           have H' := Aside0.mk H
           clear H
           obtain ⟨Ao13, co13, eo13⟩ := Kd.S_slice HO_11.out
           subst eo13
           have p206 : 0 ≤ (x12_1 : Int) := of_decide_eq_true (by first | (with_reducible assumption) | assumption)
           have q206 : x12_1 < (x11_1.length : Int) := of_decide_eq_true (by first | (with_reducible assumption) | assumption)
           obtain ⟨ad206, A206_0, c206_0, e206, hx206_0, hl206_0, hi206_0⟩ := at_L1 (Kd.S_reads' HO_11.out).2.2 x12_1 p206 q206
           cases e206
           obtain ⟨ce206, hce206, hMe206, hcc206⟩ := Kd.S_get HO_11.out [] x12_1 p206 (by first | exact q206 | exact of_decide_eq_true (by first | (with_reducible assumption) | assumption) | (have e_ := (Kd.S_reads' HO_11.out).1; omega))
           obtain ⟨ve206_0, rfl, ge206_0⟩ := hMe206
           have hv206_0 := hcc206 0 _ rfl
           rw [Nat.add_zero, show ((Kd.slice 3 (Kd.int .i64))).sz = 1 from rfl, Nat.mul_one] at hv206_0
           replace hv206_0 := Option.some.inj (hv206_0.symm.trans hx206_0)
           rw [hv206_0] at ge206_0
           have HL206_0 := Aside0.mk (show Kd.R (Kd.int .i64) 3 _ _ _ _ (rd_L1 x11_1 x12_1) from ge206_0)
           clear hv206_0 ge206_0
           have HX206_0 := Aside0.mk hx206_0
           clear hcc206 hce206
           have HR206_0 := Aside0.mk hi206_0
           have HC206_0 := Aside0.mk hl206_0
           clear hi206_0 hl206_0
           replace p206 := eq_true p206
           replace q206 := eq_true q206
           have p12 : 0 ≤ (x12_1 : Int) := of_decide_eq_true (by first | (with_reducible assumption) | assumption)
           have q12 : (x12_1 : Int) < (((rd_L1 x11_1 x12_1).length : Int) : Int) := of_decide_eq_true (by first | (with_reducible assumption) | assumption)
           obtain ⟨go12, co12, eo12, gb12, gl12, cl12, HG12⟩ := Kd.R_form HL206_0.out (by omega)
           (first | cases eo12 | (injection eo12 with ea_ en_ ec_; (first | subst ea_ | (injection ea_ with ea_; subst ea_)); subst ec_; clear en_))
           have GB12 := Aside0.mk gb12
           have GG12 := Aside0.mk HG12
           clear gb12 gl12 HG12
           obtain ⟨hx12_0, hf12_0⟩ := Kd.R_celln 0 HL206_0.out (x12_1 : Int) p12 q12
           replace p12 := eq_true p12
           replace q12 := eq_true q12
           have hq14 : (x12_1 : Int) < (x11_1.length : Int) := (by have h_ : (x12_1 : Int) < ((x11_1.length : Int) : Int) := of_decide_eq_true (by first | (with_reducible assumption) | assumption); first | exact h_ | (have e_ := (Kd.S_reads' HO_11.out).1; omega) | simpa only [List.length_set, List.length_set] using h_)
           obtain ⟨oki14, ce14, hcl14, hM14, hcc14, hok14, hbk14⟩ := Kd.S_borrow HO_11.out [] (x12_1 : Int) (of_decide_eq_true (by first | (with_reducible assumption) | assumption)) (by first | exact hq14 | (have e_ := (Kd.S_reads' HO_11.out).1; omega))
           obtain ⟨ve14_0, rfl, ge14_0⟩ := hM14
           have hv14 := hcc14 0 _ rfl
           rw [Nat.add_zero, show ((Kd.slice 3 (Kd.int .i64))).sz = 1 from rfl, Nat.mul_one] at hv14
           replace hv14 := Option.some.inj (hv14.symm.trans HX206_0.out)
           subst hv14
           clear hcc14 hcl14
           replace ge14_0 := (show Kd.R (Kd.int .i64) 3 _ _ _ _ (rd_L1 x11_1 x12_1) from ge14_0)
           have HP14 := Kd.R_putg ge14_0 (x12_1 : Int) a3
           go_wp2_with (first | ((with_reducible refine gate_store (t := 3) (p := 26) rfl ?_); refine store_event (t := 3) (p := 26) (v := ?vo_w15) (w1 := (wr.setCell ⟨go12, (x12_1 : Int).toNat, none⟩ (.int .i64 a3))) ?hg ?ho ?hn ?hr ?_; (case ho => rfl); (case hg => rfl); (case hn => rfl); (case hr => first | (go_simp; done) | (go_simp; rfl)); intro w15 hw; have hg : wr.grownBy w15 (some go12) := (by rw [hw]; exact HP14.2); have hz_ : Kd.R (Kd.int .i64) 3 w15 w.heap.size oki14 (.slice (some ⟨go12, 0, none⟩) (rd_L1 x11_1 x12_1).length c206_0) y207 := (by rw [hw, Ny207.out]; exact HP14.1); have hp_ : Kd.S (Kd.slice 3 (Kd.int .i64)) 22 w15 w.heap.size (fun _ => True) (.slice (some ad206) x11_1.length co13) y209 := (by rw [Ny209.out]; exact hbk14 hg (fun k_ e_ => by injection e_ with e_; subst e_; exact ge14_0.1 _ rfl) (Kd.M_row hz_)); have hm_ := Kd.R_mono hz_ hok14; clear HP14 hbk14; have n0_ := Aside0.mk (hp_); have n1_ := Aside0.mk ((by rw [hw]; exact below_set (HB.out) GB12.out : Below w.heap.size w w15)); have n2_ := Aside0.mk (hm_); have n3_ := Aside0.mk ((Kd.R_reads' hm_).2.1); clear HO_11; clear HB; clear HL206_0; have HO_11 := n0_; have HB := n1_; have HL226 := n2_; have HC208 := n3_; clear n0_ n1_ n2_ n3_; clear hg hw hp_ hz_ hm_ hok14))
           go_roundg k1
           case measure => have := HK1.out; omega
           case rel => exact ⟨(y209), (wrap64 (x12_1 + 1)), (by first | rfl | (simp; done) | (simp [*]; done)), H', ⟨by have := HK1.out; omega⟩, ⟨by (with_reducible repeat (first | apply Kd.S_alloc | apply Kd.S_drewN | apply Kd.S_drew)); exact HO_11.out⟩, ⟨by repeat (first | (with_reducible first | exact HB.out | apply below_alloc | apply pw_below_drewN | apply below_drew1) | exact HB.out)⟩⟩
         · rw [if_neg c11] at H
           exact absurd H (by simp)
       · rw [if_neg c10] at H
         exact absurd H (by simp)
     · rw [if_neg c9] at H
       exact absurd H (by simp)
   · rw [if_neg c8] at H
     have c8b0 : decide (x12_1 < a0) = false := decide_eq_false c8
     clear c8
     by_cases c16 : 0 ≤ a1
     · rw [if_pos c16] at H
       have c16b0 : decide (0 ≤ a1) = true := decide_eq_true c16
       clear c16
       by_cases c17 : a1 < (x11_1.length : Int)
       · rw [if_pos c17] at H
         have c17b0 : decide (a1 < (x11_1.length : Int)) = true := decide_eq_true c17
         clear c17
         by_cases c18 : a1 < ((rd_L1 x11_1 a1).length : Int)
         · rw [if_pos c18] at H
           have c18b0 : decide (a1 < ((rd_L1 x11_1 a1).length : Int)) = true := decide_eq_true c18
           clear c18
           obtain ⟨y211, hy211⟩ : ∃ y_ : List Int, y_ = ((rd_L1 x11_1 a1).set (a1 : Int).toNat (wrap64 (a3 - a4))) := ⟨_, rfl⟩
           replace H : ((some (x11_1.set (a1 : Int).toNat y211 : List (List Int))).bind fun y213 => (if 0 ≤ a2 then (if a2 < (x11_1.length : Int) then (if a2 < ((rd_L1 y213 a2).length : Int) then ((some (y213.set (a2 : Int).toNat ((rd_L1 y213 a2).set (a2 : Int).toNat (wrap64 (a3 - a4))) : List (List Int))).bind fun y217 => (if a2 < ((rd_L1 y217 a1).length : Int) then ((some (y217.set (a1 : Int).toNat ((rd_L1 y217 a1).set (a2 : Int).toNat a4) : List (List Int))).bind fun y221 => (if a1 < ((rd_L1 y221 a2).length : Int) then (some (y221.set (a2 : Int).toNat ((rd_L1 y221 a2).set (a1 : Int).toNat a4))) else (none))) else (none))) else (none)) else (none)) else (none))) = some r := by first | (rw [hy211]; with_reducible exact H) | (have H2_ := (Option.bind_some _ _).symm.trans H; rw [hy211]; with_reducible exact H2_) | (have H2_ := (Option.bind_some _ _).symm.trans H; with_reducible exact H2_) | with_reducible exact H | (rw [hy211]; exact H) | exact H
           have Ny211 := Aside0.mk hy211
           clear hy211
           obtain ⟨y213, hy213⟩ : ∃ y_ : List (List Int), y_ = (x11_1.set (a1 : Int).toNat y211) := ⟨_, rfl⟩
           replace H : (if 0 ≤ a2 then (if a2 < (x11_1.length : Int) then (if a2 < ((rd_L1 y213 a2).length : Int) then ((some (y213.set (a2 : Int).toNat ((rd_L1 y213 a2).set (a2 : Int).toNat (wrap64 (a3 - a4))) : List (List Int))).bind fun y217 => (if a2 < ((rd_L1 y217 a1).length : Int) then ((some (y217.set (a1 : Int).toNat ((rd_L1 y217 a1).set (a2 : Int).toNat a4) : List (List Int))).bind fun y221 => (if a1 < ((rd_L1 y221 a2).length : Int) then (some (y221.set (a2 : Int).toNat ((rd_L1 y221 a2).set (a1 : Int).toNat a4))) else (none))) else (none))) else (none)) else (none)) else (none)) = some r := by first | (rw [hy213]; with_reducible exact H) | (have H2_ := (Option.bind_some _ _).symm.trans H; rw [hy213]; with_reducible exact H2_) | (have H2_ := (Option.bind_some _ _).symm.trans H; with_reducible exact H2_) | with_reducible exact H | (rw [hy213]; exact H) | exact H
           have Ny213 := Aside0.mk hy213
           clear hy213
           by_cases c20 : 0 ≤ a2
           · rw [if_pos c20] at H
             have c20b0 : decide (0 ≤ a2) = true := decide_eq_true c20
             clear c20
             by_cases c21 : a2 < (x11_1.length : Int)
             · rw [if_pos c21] at H
               have c21b0 : decide (a2 < (x11_1.length : Int)) = true := decide_eq_true c21
               clear c21
               by_cases c22 : a2 < ((rd_L1 y213 a2).length : Int)
               · rw [if_pos c22] at H
                 have c22b0 : decide (a2 < ((rd_L1 y213 a2).length : Int)) = true := decide_eq_true c22
                 clear c22
                 obtain ⟨y215, hy215⟩ : ∃ y_ : List Int, y_ = ((rd_L1 y213 a2).set (a2 : Int).toNat (wrap64 (a3 - a4))) := ⟨_, rfl⟩
                 replace H : ((some (y213.set (a2 : Int).toNat y215 : List (List Int))).bind fun y217 => (if a2 < ((rd_L1 y217 a1).length : Int) then ((some (y217.set (a1 : Int).toNat ((rd_L1 y217 a1).set (a2 : Int).toNat a4) : List (List Int))).bind fun y221 => (if a1 < ((rd_L1 y221 a2).length : Int) then (some (y221.set (a2 : Int).toNat ((rd_L1 y221 a2).set (a1 : Int).toNat a4))) else (none))) else (none))) = some r := by first | (rw [hy215]; with_reducible exact H) | (have H2_ := (Option.bind_some _ _).symm.trans H; rw [hy215]; with_reducible exact H2_) | (have H2_ := (Option.bind_some _ _).symm.trans H; with_reducible exact H2_) | with_reducible exact H | (rw [hy215]; exact H) | exact H
                 have Ny215 := Aside0.mk hy215
                 clear hy215
                 obtain ⟨y217, hy217⟩ : ∃ y_ : List (List Int), y_ = (y213.set (a2 : Int).toNat y215) := ⟨_, rfl⟩
                 replace H : (if a2 < ((rd_L1 y217 a1).length : Int) then ((some (y217.set (a1 : Int).toNat ((rd_L1 y217 a1).set (a2 : Int).toNat a4) : List (List Int))).bind fun y221 => (if a1 < ((rd_L1 y221 a2).length : Int) then (some (y221.set (a2 : Int).toNat ((rd_L1 y221 a2).set (a1 : Int).toNat a4))) else (none))) else (none)) = some r := by first | (rw [hy217]; with_reducible exact H) | (have H2_ := (Option.bind_some _ _).symm.trans H; rw [hy217]; with_reducible exact H2_) | (have H2_ := (Option.bind_some _ _).symm.trans H; with_reducible exact H2_) | with_reducible exact H | (rw [hy217]; exact H) | exact H
                 have Ny217 := Aside0.mk hy217
                 clear hy217
                 by_cases c24 : a2 < ((rd_L1 y217 a1).length : Int)
                 · rw [if_pos c24] at H
                   have c24b0 : decide (a2 < ((rd_L1 y217 a1).length : Int)) = true := decide_eq_true c24
                   clear c24
                   obtain ⟨y219, hy219⟩ : ∃ y_ : List Int, y_ = ((rd_L1 y217 a1).set (a2 : Int).toNat a4) := ⟨_, rfl⟩
                   replace H : ((some (y217.set (a1 : Int).toNat y219 : List (List Int))).bind fun y221 => (if a1 < ((rd_L1 y221 a2).length : Int) then (some (y221.set (a2 : Int).toNat ((rd_L1 y221 a2).set (a1 : Int).toNat a4))) else (none))) = some r := by first | (rw [hy219]; with_reducible exact H) | (have H2_ := (Option.bind_some _ _).symm.trans H; rw [hy219]; with_reducible exact H2_) | (have H2_ := (Option.bind_some _ _).symm.trans H; with_reducible exact H2_) | with_reducible exact H | (rw [hy219]; exact H) | exact H
                   have Ny219 := Aside0.mk hy219
                   clear hy219
                   obtain ⟨y221, hy221⟩ : ∃ y_ : List (List Int), y_ = (y217.set (a1 : Int).toNat y219) := ⟨_, rfl⟩
                   replace H : (if a1 < ((rd_L1 y221 a2).length : Int) then (some (y221.set (a2 : Int).toNat ((rd_L1 y221 a2).set (a1 : Int).toNat a4))) else (none)) = some r := by first | (rw [hy221]; with_reducible exact H) | (have H2_ := (Option.bind_some _ _).symm.trans H; rw [hy221]; with_reducible exact H2_) | (have H2_ := (Option.bind_some _ _).symm.trans H; with_reducible exact H2_) | with_reducible exact H | (rw [hy221]; exact H) | exact H
                   have Ny221 := Aside0.mk hy221
                   clear hy221
                   by_cases c26 : a1 < ((rd_L1 y221 a2).length : Int)
                   · rw [if_pos c26] at H
                     have c26b0 : decide (a1 < ((rd_L1 y221 a2).length : Int)) = true := decide_eq_true c26
                     clear c26
                     obtain ⟨y223, hy223⟩ : ∃ y_ : List Int, y_ = ((rd_L1 y221 a2).set (a1 : Int).toNat a4) := ⟨_, rfl⟩
                     replace H : (some (y221.set (a2 : Int).toNat y223)) = some r := by first | (rw [hy223]; with_reducible exact H) | (have H2_ := (Option.bind_some _ _).symm.trans H; rw [hy223]; with_reducible exact H2_) | (have H2_ := (Option.bind_some _ _).symm.trans H; with_reducible exact H2_) | with_reducible exact H | (rw [hy223]; exact H) | exact H
                     have Ny223 := Aside0.mk hy223
                     clear hy223
                     obtain ⟨y225, hy225⟩ : ∃ y_ : List (List Int), y_ = (y221.set (a2 : Int).toNat y223) := ⟨_, rfl⟩
                     replace H : (some y225) = some r := by first | (rw [hy225]; with_reducible exact H) | (have H2_ := (Option.bind_some _ _).symm.trans H; rw [hy225]; with_reducible exact H2_) | (have H2_ := (Option.bind_some _ _).symm.trans H; with_reducible exact H2_) | with_reducible exact H | (rw [hy225]; exact H) | exact H
                     have Ny225 := Aside0.mk hy225
                     clear hy225
                     obtain rfl := Option.some.inj H
                     obtain ⟨Ao28, co28, eo28⟩ := Kd.S_slice HO_11.out
                     subst eo28
                     have p210 : 0 ≤ (a1 : Int) := of_decide_eq_true (by first | (with_reducible assumption) | assumption)
                     have q210 : a1 < (x11_1.length : Int) := of_decide_eq_true (by first | (with_reducible assumption) | assumption)
                     obtain ⟨ad210, A210_0, c210_0, e210, hx210_0, hl210_0, hi210_0⟩ := at_L1 (Kd.S_reads' HO_11.out).2.2 a1 p210 q210
                     cases e210
                     obtain ⟨ce210, hce210, hMe210, hcc210⟩ := Kd.S_get HO_11.out [] a1 p210 (by first | exact q210 | exact of_decide_eq_true (by first | (with_reducible assumption) | assumption) | (have e_ := (Kd.S_reads' HO_11.out).1; omega))
                     obtain ⟨ve210_0, rfl, ge210_0⟩ := hMe210
                     have hv210_0 := hcc210 0 _ rfl
                     rw [Nat.add_zero, show ((Kd.slice 3 (Kd.int .i64))).sz = 1 from rfl, Nat.mul_one] at hv210_0
                     replace hv210_0 := Option.some.inj (hv210_0.symm.trans hx210_0)
                     rw [hv210_0] at ge210_0
                     have HL210_0 := Aside0.mk (show Kd.R (Kd.int .i64) 3 _ _ _ _ (rd_L1 x11_1 a1) from ge210_0)
                     clear hv210_0 ge210_0
                     have HX210_0 := Aside0.mk hx210_0
                     clear hcc210 hce210
                     have HR210_0 := Aside0.mk hi210_0
                     have HC210_0 := Aside0.mk hl210_0
                     clear hi210_0 hl210_0
                     replace p210 := eq_true p210
                     replace q210 := eq_true q210
                     have p19 : 0 ≤ (a1 : Int) := of_decide_eq_true (by first | (with_reducible assumption) | assumption)
                     have q19 : (a1 : Int) < (((rd_L1 x11_1 a1).length : Int) : Int) := of_decide_eq_true (by first | (with_reducible assumption) | assumption)
                     obtain ⟨go19, co19, eo19, gb19, gl19, cl19, HG19⟩ := Kd.R_form HL210_0.out (by omega)
                     (first | cases eo19 | (injection eo19 with ea_ en_ ec_; (first | subst ea_ | (injection ea_ with ea_; subst ea_)); subst ec_; clear en_))
                     have GB19 := Aside0.mk gb19
                     have GG19 := Aside0.mk HG19
                     clear gb19 gl19 HG19
                     obtain ⟨hx19_0, hf19_0⟩ := Kd.R_celln 0 HL210_0.out (a1 : Int) p19 q19
                     replace p19 := eq_true p19
                     replace q19 := eq_true q19
                     have hq29 : (a1 : Int) < (x11_1.length : Int) := (by have h_ : (a1 : Int) < ((x11_1.length : Int) : Int) := of_decide_eq_true (by first | (with_reducible assumption) | assumption); first | exact h_ | (have e_ := (Kd.S_reads' HO_11.out).1; omega) | simpa only [List.length_set, List.length_set] using h_)
                     obtain ⟨oki29, ce29, hcl29, hM29, hcc29, hok29, hbk29⟩ := Kd.S_borrow HO_11.out [] (a1 : Int) (of_decide_eq_true (by first | (with_reducible assumption) | assumption)) (by first | exact hq29 | (have e_ := (Kd.S_reads' HO_11.out).1; omega))
                     obtain ⟨ve29_0, rfl, ge29_0⟩ := hM29
                     have hv29 := hcc29 0 _ rfl
                     rw [Nat.add_zero, show ((Kd.slice 3 (Kd.int .i64))).sz = 1 from rfl, Nat.mul_one] at hv29
                     replace hv29 := Option.some.inj (hv29.symm.trans HX210_0.out)
                     subst hv29
                     clear hcc29 hcl29
                     replace ge29_0 := (show Kd.R (Kd.int .i64) 3 _ _ _ _ (rd_L1 x11_1 a1) from ge29_0)
                     have HP29 := Kd.R_putg ge29_0 (a1 : Int) (wrap64 (a3 - a4))
                     go_wp2_with (first | ((with_reducible refine gate_store (t := 3) (p := 35) rfl ?_); refine store_event (t := 3) (p := 35) (v := ?vo_w30) (w1 := (wr.setCell ⟨go19, (a1 : Int).toNat, none⟩ (.int .i64 (wrap64 (a3 - a4))))) ?hg ?ho ?hn ?hr ?_; (case ho => rfl); (case hg => rfl); (case hn => rfl); (case hr => first | (go_simp; done) | (go_simp; rfl)); intro w30 hw; have hg : wr.grownBy w30 (some go19) := (by rw [hw]; exact HP29.2); have hz_ : Kd.R (Kd.int .i64) 3 w30 w.heap.size oki29 (.slice (some ⟨go19, 0, none⟩) (rd_L1 x11_1 a1).length c210_0) y211 := (by rw [hw, Ny211.out]; exact HP29.1); have hp_ : Kd.S (Kd.slice 3 (Kd.int .i64)) 22 w30 w.heap.size (fun _ => True) (.slice (some ad210) x11_1.length co28) y213 := (by rw [Ny213.out]; exact hbk29 hg (fun k_ e_ => by injection e_ with e_; subst e_; exact ge29_0.1 _ rfl) (Kd.M_row hz_)); have hm_ := Kd.R_mono hz_ hok29; clear HP29 hbk29; have n0_ := Aside0.mk (hp_); have n1_ := Aside0.mk ((by rw [hw]; exact below_set (HB.out) GB19.out : Below w.heap.size w w30)); have n2_ := Aside0.mk (hm_); have n3_ := Aside0.mk ((Kd.R_reads' hm_).2.1); clear HO_11; clear HB; clear HL210_0; have HO_11 := n0_; have HB := n1_; have HL227 := n2_; have HC212 := n3_; clear n0_ n1_ n2_ n3_; clear hg hw hp_ hz_ hm_ hok29; have p214 : 0 ≤ (a2 : Int) := of_decide_eq_true (by first | (with_reducible assumption) | assumption); have q214 : a2 < (y213.length : Int) := (by have h_ : (a2 : Int) < ((x11_1.length : Int) : Int) := of_decide_eq_true (by first | (with_reducible assumption) | assumption); first | (have e_ := (Kd.S_reads' HO_11.out).1; omega) | simpa only [Ny213.out, List.length_set] using h_); have ql214 : ((a2 : Int) < ((x11_1.length : Int) : Int)) = True := eq_true (of_decide_eq_true (by first | (with_reducible assumption) | assumption)); obtain ⟨ad214, A214_0, c214_0, e214, hx214_0, hl214_0, hi214_0⟩ := at_L1 (Kd.S_reads' HO_11.out).2.2 a2 p214 q214; obtain rfl : ad210 = ad214 := (by injection e214); obtain ⟨ce214, hce214, hMe214, hcc214⟩ := Kd.S_get HO_11.out [] a2 p214 (by first | exact q214 | exact of_decide_eq_true (by first | (with_reducible assumption) | assumption) | (have e_ := (Kd.S_reads' HO_11.out).1; omega)); obtain ⟨ve214_0, rfl, ge214_0⟩ := hMe214; have hv214_0 := hcc214 0 _ rfl; rw [Nat.add_zero, show ((Kd.slice 3 (Kd.int .i64))).sz = 1 from rfl, Nat.mul_one] at hv214_0; replace hv214_0 := Option.some.inj (hv214_0.symm.trans hx214_0); rw [hv214_0] at ge214_0; have HL214_0 := Aside0.mk (show Kd.R (Kd.int .i64) 3 _ _ _ _ (rd_L1 y213 a2) from ge214_0); clear hv214_0 ge214_0; have HX214_0 := Aside0.mk hx214_0; clear hcc214 hce214; have HR214_0 := Aside0.mk hi214_0; have HC214_0 := Aside0.mk hl214_0; clear hi214_0 hl214_0; replace p214 := eq_true p214; replace q214 := eq_true q214; have p23 : 0 ≤ (a2 : Int) := of_decide_eq_true (by first | (with_reducible assumption) | assumption); have q23 : (a2 : Int) < (((rd_L1 y213 a2).length : Int) : Int) := of_decide_eq_true (by first | (with_reducible assumption) | assumption); obtain ⟨go23, co23, eo23, gb23, gl23, cl23, HG23⟩ := Kd.R_form HL214_0.out (by omega); (first | cases eo23 | (injection eo23 with ea_ en_ ec_; (first | subst ea_ | (injection ea_ with ea_; subst ea_)); subst ec_; clear en_)); have GB23 := Aside0.mk gb23; have GG23 := Aside0.mk HG23; clear gb23 gl23 HG23; obtain ⟨hx23_0, hf23_0⟩ := Kd.R_celln 0 HL214_0.out (a2 : Int) p23 q23; replace p23 := eq_true p23; replace q23 := eq_true q23; have hq31 : (a2 : Int) < (y213.length : Int) := (by have h_ : (a2 : Int) < ((x11_1.length : Int) : Int) := of_decide_eq_true (by first | (with_reducible assumption) | assumption); first | exact h_ | (have e_ := (Kd.S_reads' HO_11.out).1; omega) | simpa only [Ny213.out, List.length_set] using h_); obtain ⟨oki31, ce31, hcl31, hM31, hcc31, hok31, hbk31⟩ := Kd.S_borrow HO_11.out [] (a2 : Int) (of_decide_eq_true (by first | (with_reducible assumption) | assumption)) (by first | exact hq31 | (have e_ := (Kd.S_reads' HO_11.out).1; omega)); obtain ⟨ve31_0, rfl, ge31_0⟩ := hM31; have hv31 := hcc31 0 _ rfl; rw [Nat.add_zero, show ((Kd.slice 3 (Kd.int .i64))).sz = 1 from rfl, Nat.mul_one] at hv31; replace hv31 := Option.some.inj (hv31.symm.trans HX214_0.out); subst hv31; clear hcc31 hcl31; replace ge31_0 := (show Kd.R (Kd.int .i64) 3 _ _ _ _ (rd_L1 y213 a2) from ge31_0); have HP31 := Kd.R_putg ge31_0 (a2 : Int) (wrap64 (a3 - a4))) | ((with_reducible refine gate_store (t := 3) (p := 44) rfl ?_); refine store_event (t := 3) (p := 44) (v := ?vo_w32) (w1 := (w30.setCell ⟨go23, (a2 : Int).toNat, none⟩ (.int .i64 (wrap64 (a3 - a4))))) ?hg ?ho ?hn ?hr ?_; (case ho => rfl); (case hg => rfl); (case hn => rfl); (case hr => first | (go_simp; done) | (go_simp; rfl)); intro w32 hw; have hg : w30.grownBy w32 (some go23) := (by rw [hw]; exact HP31.2); have hz_ : Kd.R (Kd.int .i64) 3 w32 w.heap.size oki31 (.slice (some ⟨go23, 0, none⟩) (rd_L1 y213 a2).length c214_0) y215 := (by rw [hw, Ny215.out]; exact HP31.1); have hp_ : Kd.S (Kd.slice 3 (Kd.int .i64)) 22 w32 w.heap.size (fun _ => True) (.slice (some ad210) x11_1.length co28) y217 := (by rw [Ny217.out]; exact hbk31 hg (fun k_ e_ => by injection e_ with e_; subst e_; exact ge31_0.1 _ rfl) (Kd.M_row hz_)); have hm_ := Kd.R_mono hz_ hok31; clear HP31 hbk31; have n0_ := Aside0.mk (hp_); have n1_ := Aside0.mk ((by rw [hw]; exact below_set (HB.out) GB23.out : Below w.heap.size w w32)); have n2_ := Aside0.mk (hm_); have n3_ := Aside0.mk ((Kd.R_reads' hm_).2.1); clear HO_11; clear HB; clear HL227; clear HL214_0; have HO_11 := n0_; have HB := n1_; have HL228 := n2_; have HC216 := n3_; clear n0_ n1_ n2_ n3_; clear hg hw hp_ hz_ hm_ hok31; have p218 : 0 ≤ (a1 : Int) := of_decide_eq_true (by first | (with_reducible assumption) | assumption); have q218 : a1 < (y217.length : Int) := (by have h_ : (a1 : Int) < ((x11_1.length : Int) : Int) := of_decide_eq_true (by first | (with_reducible assumption) | assumption); first | (have e_ := (Kd.S_reads' HO_11.out).1; omega) | simpa only [Ny213.out, Ny217.out, List.length_set] using h_); have ql218 : ((a1 : Int) < ((x11_1.length : Int) : Int)) = True := eq_true (of_decide_eq_true (by first | (with_reducible assumption) | assumption)); obtain ⟨ad218, A218_0, c218_0, e218, hx218_0, hl218_0, hi218_0⟩ := at_L1 (Kd.S_reads' HO_11.out).2.2 a1 p218 q218; obtain rfl : ad210 = ad218 := (by injection e218); obtain ⟨ce218, hce218, hMe218, hcc218⟩ := Kd.S_get HO_11.out [] a1 p218 (by first | exact q218 | exact of_decide_eq_true (by first | (with_reducible assumption) | assumption) | (have e_ := (Kd.S_reads' HO_11.out).1; omega)); obtain ⟨ve218_0, rfl, ge218_0⟩ := hMe218; have hv218_0 := hcc218 0 _ rfl; rw [Nat.add_zero, show ((Kd.slice 3 (Kd.int .i64))).sz = 1 from rfl, Nat.mul_one] at hv218_0; replace hv218_0 := Option.some.inj (hv218_0.symm.trans hx218_0); rw [hv218_0] at ge218_0; have HL218_0 := Aside0.mk (show Kd.R (Kd.int .i64) 3 _ _ _ _ (rd_L1 y217 a1) from ge218_0); clear hv218_0 ge218_0; have HX218_0 := Aside0.mk hx218_0; clear hcc218 hce218; have HR218_0 := Aside0.mk hi218_0; have HC218_0 := Aside0.mk hl218_0; clear hi218_0 hl218_0; replace p218 := eq_true p218; replace q218 := eq_true q218; have p25 : 0 ≤ (a2 : Int) := of_decide_eq_true (by first | (with_reducible assumption) | assumption); have q25 : (a2 : Int) < (((rd_L1 y217 a1).length : Int) : Int) := of_decide_eq_true (by first | (with_reducible assumption) | assumption); obtain ⟨go25, co25, eo25, gb25, gl25, cl25, HG25⟩ := Kd.R_form HL218_0.out (by omega); (first | cases eo25 | (injection eo25 with ea_ en_ ec_; (first | subst ea_ | (injection ea_ with ea_; subst ea_)); subst ec_; clear en_)); have GB25 := Aside0.mk gb25; have GG25 := Aside0.mk HG25; clear gb25 gl25 HG25; obtain ⟨hx25_0, hf25_0⟩ := Kd.R_celln 0 HL218_0.out (a2 : Int) p25 q25; replace p25 := eq_true p25; replace q25 := eq_true q25; have hq33 : (a1 : Int) < (y217.length : Int) := (by have h_ : (a1 : Int) < ((x11_1.length : Int) : Int) := of_decide_eq_true (by first | (with_reducible assumption) | assumption); first | exact h_ | (have e_ := (Kd.S_reads' HO_11.out).1; omega) | simpa only [Ny213.out, Ny217.out, List.length_set] using h_); obtain ⟨oki33, ce33, hcl33, hM33, hcc33, hok33, hbk33⟩ := Kd.S_borrow HO_11.out [] (a1 : Int) (of_decide_eq_true (by first | (with_reducible assumption) | assumption)) (by first | exact hq33 | (have e_ := (Kd.S_reads' HO_11.out).1; omega)); obtain ⟨ve33_0, rfl, ge33_0⟩ := hM33; have hv33 := hcc33 0 _ rfl; rw [Nat.add_zero, show ((Kd.slice 3 (Kd.int .i64))).sz = 1 from rfl, Nat.mul_one] at hv33; replace hv33 := Option.some.inj (hv33.symm.trans HX218_0.out); subst hv33; clear hcc33 hcl33; replace ge33_0 := (show Kd.R (Kd.int .i64) 3 _ _ _ _ (rd_L1 y217 a1) from ge33_0); have HP33 := Kd.R_putg ge33_0 (a2 : Int) a4) | ((with_reducible refine gate_store (t := 3) (p := 51) rfl ?_); refine store_event (t := 3) (p := 51) (v := ?vo_w34) (w1 := (w32.setCell ⟨go25, (a2 : Int).toNat, none⟩ (.int .i64 a4))) ?hg ?ho ?hn ?hr ?_; (case ho => rfl); (case hg => rfl); (case hn => rfl); (case hr => first | (go_simp; done) | (go_simp; rfl)); intro w34 hw; have hg : w32.grownBy w34 (some go25) := (by rw [hw]; exact HP33.2); have hz_ : Kd.R (Kd.int .i64) 3 w34 w.heap.size oki33 (.slice (some ⟨go25, 0, none⟩) (rd_L1 y217 a1).length c218_0) y219 := (by rw [hw, Ny219.out]; exact HP33.1); have hp_ : Kd.S (Kd.slice 3 (Kd.int .i64)) 22 w34 w.heap.size (fun _ => True) (.slice (some ad210) x11_1.length co28) y221 := (by rw [Ny221.out]; exact hbk33 hg (fun k_ e_ => by injection e_ with e_; subst e_; exact ge33_0.1 _ rfl) (Kd.M_row hz_)); have hm_ := Kd.R_mono hz_ hok33; clear HP33 hbk33; have n0_ := Aside0.mk (hp_); have n1_ := Aside0.mk ((by rw [hw]; exact below_set (HB.out) GB25.out : Below w.heap.size w w34)); have n2_ := Aside0.mk (hm_); have n3_ := Aside0.mk ((Kd.R_reads' hm_).2.1); clear HO_11; clear HB; clear HL228; clear HL218_0; have HO_11 := n0_; have HB := n1_; have HL229 := n2_; have HC220 := n3_; clear n0_ n1_ n2_ n3_; clear hg hw hp_ hz_ hm_ hok33; have p222 : 0 ≤ (a2 : Int) := of_decide_eq_true (by first | (with_reducible assumption) | assumption); have q222 : a2 < (y221.length : Int) := (by have h_ : (a2 : Int) < ((x11_1.length : Int) : Int) := of_decide_eq_true (by first | (with_reducible assumption) | assumption); first | (have e_ := (Kd.S_reads' HO_11.out).1; omega) | simpa only [Ny213.out, Ny217.out, Ny221.out, List.length_set] using h_); have ql222 : ((a2 : Int) < ((x11_1.length : Int) : Int)) = True := eq_true (of_decide_eq_true (by first | (with_reducible assumption) | assumption)); obtain ⟨ad222, A222_0, c222_0, e222, hx222_0, hl222_0, hi222_0⟩ := at_L1 (Kd.S_reads' HO_11.out).2.2 a2 p222 q222; obtain rfl : ad210 = ad222 := (by injection e222); obtain ⟨ce222, hce222, hMe222, hcc222⟩ := Kd.S_get HO_11.out [] a2 p222 (by first | exact q222 | exact of_decide_eq_true (by first | (with_reducible assumption) | assumption) | (have e_ := (Kd.S_reads' HO_11.out).1; omega)); obtain ⟨ve222_0, rfl, ge222_0⟩ := hMe222; have hv222_0 := hcc222 0 _ rfl; rw [Nat.add_zero, show ((Kd.slice 3 (Kd.int .i64))).sz = 1 from rfl, Nat.mul_one] at hv222_0; replace hv222_0 := Option.some.inj (hv222_0.symm.trans hx222_0); rw [hv222_0] at ge222_0; have HL222_0 := Aside0.mk (show Kd.R (Kd.int .i64) 3 _ _ _ _ (rd_L1 y221 a2) from ge222_0); clear hv222_0 ge222_0; have HX222_0 := Aside0.mk hx222_0; clear hcc222 hce222; have HR222_0 := Aside0.mk hi222_0; have HC222_0 := Aside0.mk hl222_0; clear hi222_0 hl222_0; replace p222 := eq_true p222; replace q222 := eq_true q222; have p27 : 0 ≤ (a1 : Int) := of_decide_eq_true (by first | (with_reducible assumption) | assumption); have q27 : (a1 : Int) < (((rd_L1 y221 a2).length : Int) : Int) := of_decide_eq_true (by first | (with_reducible assumption) | assumption); obtain ⟨go27, co27, eo27, gb27, gl27, cl27, HG27⟩ := Kd.R_form HL222_0.out (by omega); (first | cases eo27 | (injection eo27 with ea_ en_ ec_; (first | subst ea_ | (injection ea_ with ea_; subst ea_)); subst ec_; clear en_)); have GB27 := Aside0.mk gb27; have GG27 := Aside0.mk HG27; clear gb27 gl27 HG27; obtain ⟨hx27_0, hf27_0⟩ := Kd.R_celln 0 HL222_0.out (a1 : Int) p27 q27; replace p27 := eq_true p27; replace q27 := eq_true q27; have hq35 : (a2 : Int) < (y221.length : Int) := (by have h_ : (a2 : Int) < ((x11_1.length : Int) : Int) := of_decide_eq_true (by first | (with_reducible assumption) | assumption); first | exact h_ | (have e_ := (Kd.S_reads' HO_11.out).1; omega) | simpa only [Ny213.out, Ny217.out, Ny221.out, List.length_set] using h_); obtain ⟨oki35, ce35, hcl35, hM35, hcc35, hok35, hbk35⟩ := Kd.S_borrow HO_11.out [] (a2 : Int) (of_decide_eq_true (by first | (with_reducible assumption) | assumption)) (by first | exact hq35 | (have e_ := (Kd.S_reads' HO_11.out).1; omega)); obtain ⟨ve35_0, rfl, ge35_0⟩ := hM35; have hv35 := hcc35 0 _ rfl; rw [Nat.add_zero, show ((Kd.slice 3 (Kd.int .i64))).sz = 1 from rfl, Nat.mul_one] at hv35; replace hv35 := Option.some.inj (hv35.symm.trans HX222_0.out); subst hv35; clear hcc35 hcl35; replace ge35_0 := (show Kd.R (Kd.int .i64) 3 _ _ _ _ (rd_L1 y221 a2) from ge35_0); have HP35 := Kd.R_putg ge35_0 (a1 : Int) a4) | ((with_reducible refine gate_store (t := 3) (p := 58) rfl ?_); refine store_event (t := 3) (p := 58) (v := ?vo_w36) (w1 := (w34.setCell ⟨go27, (a1 : Int).toNat, none⟩ (.int .i64 a4))) ?hg ?ho ?hn ?hr ?_; (case ho => rfl); (case hg => rfl); (case hn => rfl); (case hr => first | (go_simp; done) | (go_simp; rfl)); intro w36 hw; have hg : w34.grownBy w36 (some go27) := (by rw [hw]; exact HP35.2); have hz_ : Kd.R (Kd.int .i64) 3 w36 w.heap.size oki35 (.slice (some ⟨go27, 0, none⟩) (rd_L1 y221 a2).length c222_0) y223 := (by rw [hw, Ny223.out]; exact HP35.1); have hp_ : Kd.S (Kd.slice 3 (Kd.int .i64)) 22 w36 w.heap.size (fun _ => True) (.slice (some ad210) x11_1.length co28) y225 := (by rw [Ny225.out]; exact hbk35 hg (fun k_ e_ => by injection e_ with e_; subst e_; exact ge35_0.1 _ rfl) (Kd.M_row hz_)); have hm_ := Kd.R_mono hz_ hok35; clear HP35 hbk35; have n0_ := Aside0.mk (hp_); have n1_ := Aside0.mk ((by rw [hw]; exact below_set (HB.out) GB27.out : Below w.heap.size w w36)); have n2_ := Aside0.mk (hm_); have n3_ := Aside0.mk ((Kd.R_reads' hm_).2.1); clear HO_11; clear HB; clear HL229; clear HL222_0; have HO_11 := n0_; have HB := n1_; have HL230 := n2_; have HC224 := n3_; clear n0_ n1_ n2_ n3_; clear hg hw hp_ hz_ hm_ hok35))
                     go_ret
                     exact ⟨_, by first | rfl | (simp [errW_none, errW_some] <;> rfl) | (simp [*, errW_none, errW_some] <;> rfl), by (with_reducible repeat (first | apply Kd.S_alloc | apply Kd.S_drewN | apply Kd.S_drew)); exact HO_11.out, by repeat (first | (with_reducible first | exact HB.out | apply below_alloc | apply pw_below_drewN | apply below_drew1) | exact HB.out)⟩
                   · rw [if_neg c26] at H
                     exact absurd H (by simp)
                 · rw [if_neg c24] at H
                   exact absurd H (by simp)
               · rw [if_neg c22] at H
                 exact absurd H (by simp)
             · rw [if_neg c21] at H
               exact absurd H (by simp)
           · rw [if_neg c20] at H
             exact absurd H (by simp)
         · rw [if_neg c18] at H
           exact absurd H (by simp)
       · rw [if_neg c17] at H
         exact absurd H (by simp)
     · rw [if_neg c16] at H
       exact absurd H (by simp)

end Go.Proofs.Ytmfpgimblifleaa.A

-- made by a program of this repo (wip/pp.py) through the kit's printer
namespace Go.Proofs.Ytmfpgimblifleaa.A
open Go.RowKit Go.Proofs.YtmfpgimblifleaaW.PrintWords Go.Proofs.YtmfpgimblifleaaW.PrintLast Go.Proofs.YtmfpgimblifleaaW.PrintMore
attribute [local go_sem] max2_int min2_int max_two min_two max_three min_three max_four min_four
set_option linter.unusedVariables false
set_option linter.unusedSimpArgs false

/-! ### spec_doPlaces: function 19 -/
mutual
def spec_doPlaces.l0 : Nat → List Int → List Int → List Int → Int → Int → Option (List Int)
 | 0, _, _, _, _, _ => none
 | k + 1, x0, x3, x9, x10, x11 => if x11 < x10 then (if 0 ≤ x11 then (if x11 < (x9.length : Int) then (spec_doPlaces.l1 k x0 x3 x11 (rd x9 x11) 0 x9 x10 x11 x0 (x0.length : Int) 0) else (none)) else (none)) else (some x3)
def spec_doPlaces.l1 : Nat → List Int → List Int → Int → Int → Int → List Int → Int → Int → List Int → Int → Int → Option (List Int)
 | 0, _, _, _, _, _, _, _, _, _, _, _ => none
 | k + 1, x0, x3, x4, x5, x6, x9, x10, x11, x16, x17, x18 => if x18 < x17 then (if 0 ≤ x18 then (if x18 < (x16.length : Int) then (if (rd x16 x18) > x5 then (spec_doPlaces.l1 k x0 x3 x4 x5 (wrap64 (x6 + 1)) x9 x10 x11 x16 x17 (wrap64 (x18 + 1))) else (if (rd x16 x18) = x5 then (if x18 < x4 then (spec_doPlaces.l1 k x0 x3 x4 x5 (wrap64 (x6 + 1)) x9 x10 x11 x16 x17 (wrap64 (x18 + 1))) else (spec_doPlaces.l1 k x0 x3 x4 x5 x6 x9 x10 x11 x16 x17 (wrap64 (x18 + 1)))) else (spec_doPlaces.l1 k x0 x3 x4 x5 x6 x9 x10 x11 x16 x17 (wrap64 (x18 + 1))))) else (none)) else (none)) else (if x3.length < 17592186044416 then (spec_doPlaces.l0 k x0 (x3 ++ [x6]) x9 x10 (wrap64 (x11 + 1))) else (none))
end
def spec_doPlaces.f (k : Nat) (l0 : List Int) : Option (List Int) := spec_doPlaces.l0 k l0 ([] : List Int) l0 (l0.length : Int) 0
set_option maxHeartbeats 8000000 in
set_option maxRecDepth 100000 in
theorem spec_doPlaces.calls (k : Nat) (A0 : Option Addr) (c0 : Nat) (l0 : List Int) (r : List Int) (w : World) (hr0 : Kd.C (Kd.int .i64) w A0 l0.length l0) (hc0 : l0.length ≤ c0) (h : spec_doPlaces.f k l0 = some r) :
 Calls Try.prog 19 #[.slice A0 l0.length c0] w fun e w' => ∃ v0_ : Value, e = .returned (v0_) ∧ Kd.R (Kd.int .i64) 3 w' w.heap.size (fun _ => True) v0_ r ∧ Below w.heap.size w w' := by
 have HR0 := Aside0.mk hr0
 have HC0 := Aside0.mk hc0
 clear hr0 hc0
 have HB := Aside0.mk (Below.refl w.heap.size w)
 have H : (spec_doPlaces.l0 k l0 ([] : List Int) l0 (l0.length : Int) 0) = some r := h
 clear h
 have H' := Aside0.mk H
 clear H
 go_enter Try.func19, Try.ntmps19
 go_wp2
 go_loopg [3, 11] k (fun kq v3 v11 w' => ∃ (x3_1 : List Int) (x11_1 : Int), v11 = .int .i64 x11_1 ∧ Aside0 (spec_doPlaces.l0 kq l0 x3_1 l0 (l0.length : Int) x11_1 = some r) ∧ Aside0 (kq ≤ k) ∧ Aside0 (Kd.R (Kd.int .i64) 3 w' w.heap.size (fun _ => True) v3 x3_1) ∧ Aside0 (Below w.heap.size w w'))
 case atStart => exact ⟨(([] : List Int)), (0), (by first | rfl | (simp; done) | (simp [*]; done)), H', ⟨Nat.le_refl _⟩, ⟨by first | exact Kd.R_nil _ _ _ _ _ | exact Kd.N_nil _ _ _ _ _ | exact Kd.V_nil _ _ _ _ _ | exact Kd.Q_nil _ _ _ _ _ | exact Kd.S_nil _ _ _ _ _⟩, ⟨by repeat (first | (with_reducible first | exact HB.out | apply below_alloc | apply pw_below_drewN | apply below_drew1) | exact HB.out)⟩⟩
 case round =>
  clear H'
  try clear c1
  obtain ⟨x3_1, x11_1, rfl, HA, HK1, HO_3, HB⟩ := hrel
  cases gk with
  | zero => exact absurd HA.out (by simp [spec_doPlaces.l0])
  | succ k1 =>
   have H := HA.out
   clear HA
   simp only [spec_doPlaces.l0] at H
   by_cases c2 : x11_1 < (l0.length : Int)
   · rw [if_pos c2] at H
     have c2b0 : decide (x11_1 < (l0.length : Int)) = true := decide_eq_true c2
     clear c2
     by_cases c3 : 0 ≤ x11_1
     · rw [if_pos c3] at H
       have c3b0 : decide (0 ≤ x11_1) = true := decide_eq_true c3
       clear c3
       by_cases c4 : x11_1 < (l0.length : Int)
       · rw [if_pos c4] at H
         have c4b0 : decide (x11_1 < (l0.length : Int)) = true := decide_eq_true c4
         clear c4
         have H' := Aside0.mk H
         clear H
         have p231 : 0 ≤ (x11_1 : Int) := of_decide_eq_true (by first | (with_reducible assumption) | assumption)
         have q231 : x11_1 < (l0.length : Int) := of_decide_eq_true (by first | (with_reducible assumption) | assumption)
         obtain ⟨ad231, e231, hx231_0⟩ := Kd.at_int HR0.out x11_1 p231 q231
         cases e231
         replace hx231_0 := (HB.out.cell (World.block_lt_of_cell? w _ hx231_0)).trans hx231_0
         replace p231 := eq_true p231
         replace q231 := eq_true q231
         go_wp2
         go_loopg [6, 18] k1 (fun kq v6 v18 w' => ∃ (x6_2 : Int) (x18_2 : Int), v6 = .int .i64 x6_2 ∧ v18 = .int .i64 x18_2 ∧ Aside0 (spec_doPlaces.l1 kq l0 x3_1 x11_1 (rd l0 x11_1) x6_2 l0 (l0.length : Int) x11_1 l0 (l0.length : Int) x18_2 = some r) ∧ Aside0 (kq ≤ k1) ∧ Aside0 (Kd.R (Kd.int .i64) 3 w' w.heap.size (fun _ => True) u3 x3_1) ∧ Aside0 (Below w.heap.size w w'))
         case atStart => exact ⟨(0), (0), (by first | rfl | (simp; done) | (simp [*]; done)), (by first | rfl | (simp; done) | (simp [*]; done)), H', ⟨Nat.le_refl _⟩, ⟨by (with_reducible repeat (first | apply Kd.R_alloc | apply Kd.R_drewN | apply Kd.R_drew)); exact HO_3.out⟩, ⟨by repeat (first | (with_reducible first | exact HB.out | apply below_alloc | apply pw_below_drewN | apply below_drew1) | exact HB.out)⟩⟩
         case round =>
          clear H'
          try clear c1
          try clear c2
          try clear c2b0
          try clear p2
          try clear q2
          try clear hx2
          try clear c3
          try clear c3b0
          try clear c4
          try clear c4b0
          try clear hx231_0
          try clear p231
          try clear q231
          obtain ⟨x6_2, x18_2, rfl, rfl, HA, HK2, HO_3, HB⟩ := hrel
          cases gk with
          | zero => exact absurd HA.out (by simp [spec_doPlaces.l1])
          | succ k2 =>
           have H := HA.out
           clear HA
           simp only [spec_doPlaces.l1] at H
           by_cases c5 : x18_2 < (l0.length : Int)
           · rw [if_pos c5] at H
             have c5b0 : decide (x18_2 < (l0.length : Int)) = true := decide_eq_true c5
             clear c5
             by_cases c6 : 0 ≤ x18_2
             · rw [if_pos c6] at H
               have c6b0 : decide (0 ≤ x18_2) = true := decide_eq_true c6
               clear c6
               by_cases c7 : x18_2 < (l0.length : Int)
               · rw [if_pos c7] at H
                 have c7b0 : decide (x18_2 < (l0.length : Int)) = true := decide_eq_true c7
                 clear c7
                 by_cases c8 : (rd l0 x18_2) > (rd l0 x11_1)
                 · rw [if_pos c8] at H
                   have c8b0 : decide ((rd l0 x11_1) < (rd l0 x18_2)) = true := decide_eq_true c8
                   clear c8
                   have H' := Aside0.mk H
                   clear H
                   have p232 : 0 ≤ (x18_2 : Int) := of_decide_eq_true (by first | (with_reducible assumption) | assumption)
                   have q232 : x18_2 < (l0.length : Int) := of_decide_eq_true (by first | (with_reducible assumption) | assumption)
                   obtain ⟨ad232, e232, hx232_0⟩ := Kd.at_int HR0.out x18_2 p232 q232
                   obtain rfl : ad231 = ad232 := (by injection e232)
                   replace hx232_0 := (HB.out.cell (World.block_lt_of_cell? w _ hx232_0)).trans hx232_0
                   replace p232 := eq_true p232
                   replace q232 := eq_true q232
                   go_wp2
                   go_roundg k2
                   case measure => have := HK1.out; have := HK2.out; omega
                   case rel => exact ⟨(wrap64 (x6_2 + 1)), (wrap64 (x18_2 + 1)), (by first | rfl | (simp; done) | (simp [*]; done)), (by first | rfl | (simp; done) | (simp [*]; done)), H', ⟨by have := HK1.out; have := HK2.out; omega⟩, ⟨by (with_reducible repeat (first | apply Kd.R_alloc | apply Kd.R_drewN | apply Kd.R_drew)); exact HO_3.out⟩, ⟨by repeat (first | (with_reducible first | exact HB.out | apply below_alloc | apply pw_below_drewN | apply below_drew1) | exact HB.out)⟩⟩
                 · rw [if_neg c8] at H
                   have c8b0 : decide ((rd l0 x11_1) < (rd l0 x18_2)) = false := decide_eq_false c8
                   clear c8
                   by_cases c9 : (rd l0 x18_2) = (rd l0 x11_1)
                   · rw [if_pos c9] at H
                     have c9b0 : ((rd l0 x18_2) == (rd l0 x11_1)) = true := beq_iff_eq.mpr c9
                     have c9b1 : ((rd l0 x18_2) != (rd l0 x11_1)) = false := bne_eq_false_iff_eq.mpr c9
                     clear c9
                     by_cases c10 : x18_2 < x11_1
                     · rw [if_pos c10] at H
                       have c10b0 : decide (x18_2 < x11_1) = true := decide_eq_true c10
                       clear c10
                       have H' := Aside0.mk H
                       clear H
                       have p232 : 0 ≤ (x18_2 : Int) := of_decide_eq_true (by first | (with_reducible assumption) | assumption)
                       have q232 : x18_2 < (l0.length : Int) := of_decide_eq_true (by first | (with_reducible assumption) | assumption)
                       obtain ⟨ad232, e232, hx232_0⟩ := Kd.at_int HR0.out x18_2 p232 q232
                       obtain rfl : ad231 = ad232 := (by injection e232)
                       replace hx232_0 := (HB.out.cell (World.block_lt_of_cell? w _ hx232_0)).trans hx232_0
                       replace p232 := eq_true p232
                       replace q232 := eq_true q232
                       go_wp2
                       go_roundg k2
                       case measure => have := HK1.out; have := HK2.out; omega
                       case rel => exact ⟨(wrap64 (x6_2 + 1)), (wrap64 (x18_2 + 1)), (by first | rfl | (simp; done) | (simp [*]; done)), (by first | rfl | (simp; done) | (simp [*]; done)), H', ⟨by have := HK1.out; have := HK2.out; omega⟩, ⟨by (with_reducible repeat (first | apply Kd.R_alloc | apply Kd.R_drewN | apply Kd.R_drew)); exact HO_3.out⟩, ⟨by repeat (first | (with_reducible first | exact HB.out | apply below_alloc | apply pw_below_drewN | apply below_drew1) | exact HB.out)⟩⟩
                     · rw [if_neg c10] at H
                       have c10b0 : decide (x18_2 < x11_1) = false := decide_eq_false c10
                       clear c10
                       have H' := Aside0.mk H
                       clear H
                       have p232 : 0 ≤ (x18_2 : Int) := of_decide_eq_true (by first | (with_reducible assumption) | assumption)
                       have q232 : x18_2 < (l0.length : Int) := of_decide_eq_true (by first | (with_reducible assumption) | assumption)
                       obtain ⟨ad232, e232, hx232_0⟩ := Kd.at_int HR0.out x18_2 p232 q232
                       obtain rfl : ad231 = ad232 := (by injection e232)
                       replace hx232_0 := (HB.out.cell (World.block_lt_of_cell? w _ hx232_0)).trans hx232_0
                       replace p232 := eq_true p232
                       replace q232 := eq_true q232
                       go_wp2
                       go_roundg k2
                       case measure => have := HK1.out; have := HK2.out; omega
                       case rel => exact ⟨(x6_2), (wrap64 (x18_2 + 1)), (by first | rfl | (simp; done) | (simp [*]; done)), (by first | rfl | (simp; done) | (simp [*]; done)), H', ⟨by have := HK1.out; have := HK2.out; omega⟩, ⟨by (with_reducible repeat (first | apply Kd.R_alloc | apply Kd.R_drewN | apply Kd.R_drew)); exact HO_3.out⟩, ⟨by repeat (first | (with_reducible first | exact HB.out | apply below_alloc | apply pw_below_drewN | apply below_drew1) | exact HB.out)⟩⟩
                   · rw [if_neg c9] at H
                     have c9b0 : ((rd l0 x18_2) == (rd l0 x11_1)) = false := beq_eq_false_iff_ne.mpr c9
                     have c9b1 : ((rd l0 x18_2) != (rd l0 x11_1)) = true := bne_iff_ne.mpr c9
                     have H' := Aside0.mk H
                     clear H
                     have p232 : 0 ≤ (x18_2 : Int) := of_decide_eq_true (by first | (with_reducible assumption) | assumption)
                     have q232 : x18_2 < (l0.length : Int) := of_decide_eq_true (by first | (with_reducible assumption) | assumption)
                     obtain ⟨ad232, e232, hx232_0⟩ := Kd.at_int HR0.out x18_2 p232 q232
                     obtain rfl : ad231 = ad232 := (by injection e232)
                     replace hx232_0 := (HB.out.cell (World.block_lt_of_cell? w _ hx232_0)).trans hx232_0
                     replace p232 := eq_true p232
                     replace q232 := eq_true q232
                     go_wp2
                     go_roundg k2
                     case measure => have := HK1.out; have := HK2.out; omega
                     case rel => exact ⟨(x6_2), (wrap64 (x18_2 + 1)), (by first | rfl | (simp; done) | (simp [*]; done)), (by first | rfl | (simp; done) | (simp [*]; done)), H', ⟨by have := HK1.out; have := HK2.out; omega⟩, ⟨by (with_reducible repeat (first | apply Kd.R_alloc | apply Kd.R_drewN | apply Kd.R_drew)); exact HO_3.out⟩, ⟨by repeat (first | (with_reducible first | exact HB.out | apply below_alloc | apply pw_below_drewN | apply below_drew1) | exact HB.out)⟩⟩
               · rw [if_neg c7] at H
                 exact absurd H (by simp)
             · rw [if_neg c6] at H
               exact absurd H (by simp)
           · rw [if_neg c5] at H
             have c5b0 : decide (x18_2 < (l0.length : Int)) = false := decide_eq_false c5
             clear c5
             by_cases c11 : x3_1.length < 17592186044416
             · rw [if_pos c11] at H
               have LMc11 := Aside0.mk c11
               clear c11
               obtain ⟨y233, hy233⟩ : ∃ y_ : List Int, y_ = (x3_1 ++ [x6_2]) := ⟨_, rfl⟩
               replace H : (spec_doPlaces.l0 k2 l0 y233 l0 (l0.length : Int) (wrap64 (x11_1 + 1))) = some r := by first | (rw [hy233]; with_reducible exact H) | (have H2_ := (Option.bind_some _ _).symm.trans H; rw [hy233]; with_reducible exact H2_) | (have H2_ := (Option.bind_some _ _).symm.trans H; with_reducible exact H2_) | with_reducible exact H | (rw [hy233]; exact H) | exact H
               have Ny233 := Aside0.mk hy233
               clear hy233
               have H' := Aside0.mk H
               clear H
               go_wp2_with (first | ((with_reducible refine gate_builtin (b := .append) (xs := #[.tmp 39, .tmp 41]) rfl ?_); at_builtin; refine Kd.R_append (Kd.int .i64) (w0 := w) w.heap.size rfl (.tmp 39) (.tmp 41) 22 3 (.int .i64 0) 8 rfl Try.underlying22 info3 rfl (by decide) (by omega) u3 x3_1 x6_2 [.int .i64 x6_2] (fun _ => True) (fun _ => False) rfl rfl ?aP (fun _ hk => hk.elim) ?aF ?aO ?aB ?aS ?aL ?_; (case aP => exact rfl); (case aB => exact (by repeat (first | (with_reducible first | exact HB.out | apply below_alloc | apply pw_below_drewN | apply below_drew1) | exact HB.out))); (case aF => exact (fun _ _ => trivial)); (case aO => exact (by (with_reducible repeat (first | apply Kd.R_alloc | apply Kd.R_drewN | apply Kd.R_drew)); exact HO_3.out)); (case aS => exact (below_size (by repeat (first | (with_reducible first | exact HB.out | apply below_alloc | apply pw_below_drewN | apply below_drew1) | exact HB.out)))); (case aL => have := LMc11.out; omega); intro v234 w12 ho hb hg hat; rw [← Ny233.out] at ho; have n0_ := Aside0.mk (hb); have n1_ := Aside0.mk (ho); clear HB; clear HO_3; have HB := n0_; have HO235 := n1_; clear n0_ n1_; clear ho hb hg hat))
               go_roundg k2
               case measure => have := HK1.out; have := HK2.out; omega
               case rel => exact ⟨(y233), (wrap64 (x11_1 + 1)), (by first | rfl | (simp; done) | (simp [*]; done)), H', ⟨by have := HK1.out; have := HK2.out; omega⟩, ⟨by (with_reducible repeat (first | apply Kd.R_alloc | apply Kd.R_drewN | apply Kd.R_drew)); exact HO235.out⟩, ⟨by repeat (first | (with_reducible first | exact HB.out | apply below_alloc | apply pw_below_drewN | apply below_drew1) | exact HB.out)⟩⟩
             · rw [if_neg c11] at H
               exact absurd H (by simp)
       · rw [if_neg c4] at H
         exact absurd H (by simp)
     · rw [if_neg c3] at H
       exact absurd H (by simp)
   · rw [if_neg c2] at H
     have c2b0 : decide (x11_1 < (l0.length : Int)) = false := decide_eq_false c2
     clear c2
     obtain rfl := Option.some.inj H
     go_wp2
     go_ret
     exact ⟨_, by first | rfl | (simp [errW_none, errW_some] <;> rfl) | (simp [*, errW_none, errW_some] <;> rfl), by (with_reducible repeat (first | apply Kd.R_alloc | apply Kd.R_drewN | apply Kd.R_drew)); exact HO_3.out, by repeat (first | (with_reducible first | exact HB.out | apply below_alloc | apply pw_below_drewN | apply below_drew1) | exact HB.out)⟩

end Go.Proofs.Ytmfpgimblifleaa.A

-- made by a program of this repo (wip/pp.py) through the kit's printer
namespace Go.Proofs.Ytmfpgimblifleaa.A
open Go.RowKit Go.Proofs.YtmfpgimblifleaaW.PrintWords Go.Proofs.YtmfpgimblifleaaW.PrintLast Go.Proofs.YtmfpgimblifleaaW.PrintMore
attribute [local go_sem] max2_int min2_int max_two min_two max_three min_three max_four min_four
set_option linter.unusedVariables false
set_option linter.unusedSimpArgs false

/-! ### spec_doGcd: function 20 -/
def spec_doGcd.f : Nat → Int → Int → Option (Int)
 | 0, _, _ => none
 | k + 1, a0, a1 => if a1 = 0 then (some a0) else ((spec_doGcd.f k a1 (Int.tmod a0 a1)).bind fun t236 => (some t236))
set_option maxHeartbeats 8000000 in
set_option maxRecDepth 100000 in
theorem spec_doGcd.calls (k : Nat) : ∀ (a0 : Int) (a1 : Int) (r : Int) (w : World) (h : spec_doGcd.f k a0 a1 = some r),
 Calls Try.prog 20 #[.int .i64 a0, .int .i64 a1] w fun e w' => e = .returned (.int .i64 r) ∧ Drawn0 w w' := by
 induction k using Nat.strongRecOn with
 | _ k ih =>
 intro a0 a1 r w h
 cases k with
 | zero => exact absurd h (by simp [spec_doGcd.f])
 | succ k =>
 simp only [spec_doGcd.f] at h
 have H : (if a1 = 0 then (some a0) else ((spec_doGcd.f k a1 (Int.tmod a0 a1)).bind fun t236 => (some t236))) = some r := h
 clear h
 by_cases c3 : a1 = 0
 · rw [if_pos c3] at H
   have c3b0 : (a1 == 0) = true := beq_iff_eq.mpr c3
   have c3b1 : (a1 != 0) = false := bne_eq_false_iff_eq.mpr c3
   clear c3
   obtain rfl := Option.some.inj H
   go_enter Try.func20, Try.ntmps20
   go_wp2
   go_ret
   exact ⟨by first | rfl | (simp; done) | (simp [*]; done), by repeat (first | exact Drawn0.refl _ | apply Drawn0.step)⟩
 · rw [if_neg c3] at H
   have c3b0 : (a1 == 0) = false := beq_eq_false_iff_ne.mpr c3
   have c3b1 : (a1 != 0) = true := bne_iff_ne.mpr c3
   replace H := Option.bind_eq_some_iff.mp H
   obtain ⟨t236, A40, H⟩ := H
   replace H : (some t236) = some r := H
   have A4 := Aside0.mk A40
   clear A40
   obtain rfl := Option.some.inj H
   go_enter Try.func20, Try.ntmps20
   go_wp2_with (first | ((with_reducible refine gate_callee (f := 20) rfl ?_); refine goesL_ (some 12) rfl rfl Try.func20 (by kernel_rfl) rfl #[.int .i64 a1, .int .i64 (Int.tmod a0 a1)] rfl (by (try simp only [List.map_toArray, List.map_cons, List.map_nil]); first | done | rfl | (simp only [List.length_drop, List.length_take]; rfl)) ?_; (with_reducible refine (ih k (by omega) a1 (Int.tmod a0 a1) t236 _ A4.out).mono ?_); rintro e w' ⟨rfl, ⟨nd, rfl⟩⟩; refine ⟨_, rfl, ?_⟩))
   go_ret
   exact ⟨by first | rfl | (simp; done) | (simp [*]; done), by repeat (first | exact Drawn0.refl _ | apply Drawn0.step)⟩

end Go.Proofs.Ytmfpgimblifleaa.A

-- made by a program of this repo (wip/pp.py) through the kit's printer
namespace Go.Proofs.Ytmfpgimblifleaa.A
open Go.RowKit Go.Proofs.YtmfpgimblifleaaW.PrintWords Go.Proofs.YtmfpgimblifleaaW.PrintLast Go.Proofs.YtmfpgimblifleaaW.PrintMore
attribute [local go_sem] max2_int min2_int max_two min_two max_three min_three max_four min_four
set_option linter.unusedVariables false
set_option linter.unusedSimpArgs false

/-! ### spec_doGood: function 40 -/
def spec_doGood.l0 : Nat → List (List Int) → List (List Int) → Int → Int → Option (Bool)
 | 0, _, _, _, _ => none
 | k + 1, x0, x5, x6, x7 => if x7 < x6 then (if 0 ≤ x7 then (if x7 < (x5.length : Int) then (if ((rd_L1 x5 x7).length : Int) = (x0.length : Int) then ((spec_l1All.f k (rd_L1 x5 x7) 0 1000000).bind fun t238 => (if t238 = true then (spec_doGood.l0 k x0 x5 x6 (wrap64 (x7 + 1))) else (some false))) else (some false)) else (none)) else (none)) else ((spec_l1In.f (x0.length : Int) 1 6).bind fun t239 => (some t239))
def spec_doGood.f (k : Nat) (l0 : List (List Int)) : Option (Bool) := spec_doGood.l0 k l0 l0 (l0.length : Int) 0
set_option maxHeartbeats 8000000 in
set_option maxRecDepth 100000 in
theorem spec_doGood.calls (k : Nat) (A0 : Option Addr) (c0 : Nat) (l0 : List (List Int)) (r : Bool) (w : World) (hr0 : Kd.C (Kd.slice 3 (Kd.int .i64)) w A0 l0.length l0) (hc0 : l0.length ≤ c0) (h : spec_doGood.f k l0 = some r) :
 Calls Try.prog 40 #[.slice A0 l0.length c0] w fun e w' => e = .returned (.bool r) ∧ Drawn0 w w' := by
 have HR0 := Aside0.mk hr0
 have HC0 := Aside0.mk hc0
 clear hr0 hc0
 have H : (spec_doGood.l0 k l0 l0 (l0.length : Int) 0) = some r := h
 clear h
 have H' := Aside0.mk H
 clear H
 go_enter Try.func40, Try.ntmps40
 go_wp2
 go_loopg [7] k (fun kq v7 w' => ∃ (x7_1 : Int), v7 = .int .i64 x7_1 ∧ Aside0 (spec_doGood.l0 kq l0 l0 (l0.length : Int) x7_1 = some r) ∧ Aside0 (kq ≤ k) ∧ Drawn0 w w')
 case atStart => exact ⟨(0), (by first | rfl | (simp; done) | (simp [*]; done)), H', ⟨Nat.le_refl _⟩, by repeat (first | exact Drawn0.refl _ | apply Drawn0.step)⟩
 case round =>
  clear H'
  obtain ⟨x7_1, rfl, HA, HK1, ⟨m1, rfl⟩⟩ := hrel
  cases gk with
  | zero => exact absurd HA.out (by simp [spec_doGood.l0])
  | succ k1 =>
   have H := HA.out
   clear HA
   simp only [spec_doGood.l0] at H
   by_cases c2 : x7_1 < (l0.length : Int)
   · rw [if_pos c2] at H
     have c2b0 : decide (x7_1 < (l0.length : Int)) = true := decide_eq_true c2
     clear c2
     by_cases c3 : 0 ≤ x7_1
     · rw [if_pos c3] at H
       have c3b0 : decide (0 ≤ x7_1) = true := decide_eq_true c3
       clear c3
       by_cases c4 : x7_1 < (l0.length : Int)
       · rw [if_pos c4] at H
         have c4b0 : decide (x7_1 < (l0.length : Int)) = true := decide_eq_true c4
         clear c4
         by_cases c5 : ((rd_L1 l0 x7_1).length : Int) = (l0.length : Int)
         · rw [if_pos c5] at H
           have c5b0 : (((rd_L1 l0 x7_1).length : Int) == (l0.length : Int)) = true := beq_iff_eq.mpr c5
           have c5b1 : (((rd_L1 l0 x7_1).length : Int) != (l0.length : Int)) = false := bne_eq_false_iff_eq.mpr c5
           have c5b2 : ((rd_L1 l0 x7_1).length == l0.length) = true := by first | simpa using c5 | (simp at c5 ⊢; omega)
           clear c5
           replace H := Option.bind_eq_some_iff.mp H
           obtain ⟨t238, A60, H⟩ := H
           replace H : (if t238 = true then (spec_doGood.l0 k1 l0 l0 (l0.length : Int) (wrap64 (x7_1 + 1))) else (some false)) = some r := H
           have A6 := Aside0.mk A60
           clear A60
           by_cases c7 : t238 = true
           · subst c7
             have H1 : (spec_doGood.l0 k1 l0 l0 (l0.length : Int) (wrap64 (x7_1 + 1))) = some r := by rw [if_pos rfl] at H; exact H
             clear H
             have H := H1
             clear H1
             have H' := Aside0.mk H
             clear H
             have p237 : 0 ≤ (x7_1 : Int) := of_decide_eq_true (by first | (with_reducible assumption) | assumption)
             have q237 : x7_1 < (l0.length : Int) := of_decide_eq_true (by first | (with_reducible assumption) | assumption)
             obtain ⟨ad237, A237_0, c237_0, e237, hx237_0, hl237_0, hi237_0⟩ := at_L1 HR0.out x7_1 p237 q237
             cases e237
             have HR237_0 := Aside0.mk hi237_0
             have HC237_0 := Aside0.mk hl237_0
             clear hi237_0 hl237_0
             replace p237 := eq_true p237
             replace q237 := eq_true q237
             go_wp2_with (first | (go_at_call 35; (with_reducible refine (spec_l1All.calls k1 _ _ (rd_L1 l0 x7_1) 0 1000000 true _ ?side1 ?side2 A6.out).mono ?_); (case side1 => repeat (first | exact HR237_0.out | (with_reducible refine Kd.C_alloc ?_ _) | (with_reducible refine Kd.C_drewN ?_ _) | (with_reducible refine Kd.C_drew ?_))); (case side2 => exact HC237_0.out); rintro e w' ⟨rfl, ⟨nd, rfl⟩⟩))
             go_roundg k1
             case measure => have := HK1.out; omega
             case rel => exact ⟨(wrap64 (x7_1 + 1)), (by first | rfl | (simp; done) | (simp [*]; done)), H', ⟨by have := HK1.out; omega⟩, by repeat (first | exact Drawn0.refl _ | apply Drawn0.step)⟩
           · replace c7 := Bool.eq_false_iff.mpr c7
             subst c7
             have H1 : (some false) = some r := by rw [if_neg (show ¬ (false = true) by decide)] at H; exact H
             clear H
             have H := H1
             clear H1
             obtain rfl := Option.some.inj H
             have p237 : 0 ≤ (x7_1 : Int) := of_decide_eq_true (by first | (with_reducible assumption) | assumption)
             have q237 : x7_1 < (l0.length : Int) := of_decide_eq_true (by first | (with_reducible assumption) | assumption)
             obtain ⟨ad237, A237_0, c237_0, e237, hx237_0, hl237_0, hi237_0⟩ := at_L1 HR0.out x7_1 p237 q237
             cases e237
             have HR237_0 := Aside0.mk hi237_0
             have HC237_0 := Aside0.mk hl237_0
             clear hi237_0 hl237_0
             replace p237 := eq_true p237
             replace q237 := eq_true q237
             go_wp2_with (first | (go_at_call 35; (with_reducible refine (spec_l1All.calls k1 _ _ (rd_L1 l0 x7_1) 0 1000000 false _ ?side1 ?side2 A6.out).mono ?_); (case side1 => repeat (first | exact HR237_0.out | (with_reducible refine Kd.C_alloc ?_ _) | (with_reducible refine Kd.C_drewN ?_ _) | (with_reducible refine Kd.C_drew ?_))); (case side2 => exact HC237_0.out); rintro e w' ⟨rfl, ⟨nd, rfl⟩⟩))
             go_ret
             exact ⟨by first | rfl | (simp; done) | (simp [*]; done), by repeat (first | exact Drawn0.refl _ | apply Drawn0.step)⟩
         · rw [if_neg c5] at H
           have c5b0 : (((rd_L1 l0 x7_1).length : Int) == (l0.length : Int)) = false := beq_eq_false_iff_ne.mpr c5
           have c5b1 : (((rd_L1 l0 x7_1).length : Int) != (l0.length : Int)) = true := bne_iff_ne.mpr c5
           have c5b2 : ((rd_L1 l0 x7_1).length == l0.length) = false := by first | simpa using c5 | (simp at c5 ⊢; omega)
           obtain rfl := Option.some.inj H
           have p237 : 0 ≤ (x7_1 : Int) := of_decide_eq_true (by first | (with_reducible assumption) | assumption)
           have q237 : x7_1 < (l0.length : Int) := of_decide_eq_true (by first | (with_reducible assumption) | assumption)
           obtain ⟨ad237, A237_0, c237_0, e237, hx237_0, hl237_0, hi237_0⟩ := at_L1 HR0.out x7_1 p237 q237
           cases e237
           have HR237_0 := Aside0.mk hi237_0
           have HC237_0 := Aside0.mk hl237_0
           clear hi237_0 hl237_0
           replace p237 := eq_true p237
           replace q237 := eq_true q237
           go_wp2
           go_ret
           exact ⟨by first | rfl | (simp; done) | (simp [*]; done), by repeat (first | exact Drawn0.refl _ | apply Drawn0.step)⟩
       · rw [if_neg c4] at H
         exact absurd H (by simp)
     · rw [if_neg c3] at H
       exact absurd H (by simp)
   · rw [if_neg c2] at H
     have c2b0 : decide (x7_1 < (l0.length : Int)) = false := decide_eq_false c2
     clear c2
     replace H := Option.bind_eq_some_iff.mp H
     obtain ⟨t239, A80, H⟩ := H
     replace H : (some t239) = some r := H
     have A8 := Aside0.mk A80
     clear A80
     obtain rfl := Option.some.inj H
     go_wp2_with (first | ((with_reducible refine gate_callee (f := 34) rfl ?_); refine goesL_ (some 24) rfl rfl Try.func34 (by kernel_rfl) rfl #[.int .i64 (l0.length : Int), .int .i64 1, .int .i64 6] rfl (by (try simp only [List.map_toArray, List.map_cons, List.map_nil]); first | done | rfl | (simp only [List.length_drop, List.length_take]; rfl)) ?_; (with_reducible refine (spec_l1In.calls (l0.length : Int) 1 6 t239 _ A8.out).mono ?_); rintro e w' ⟨rfl, ⟨nd, rfl⟩⟩; refine ⟨_, rfl, ?_⟩))
     go_ret
     exact ⟨by first | rfl | (simp; done) | (simp [*]; done), by repeat (first | exact Drawn0.refl _ | apply Drawn0.step)⟩

end Go.Proofs.Ytmfpgimblifleaa.A

-- made by a program of this repo (wip/pp.py) through the kit's printer
namespace Go.Proofs.Ytmfpgimblifleaa.A
open Go.RowKit Go.Proofs.YtmfpgimblifleaaW.PrintWords Go.Proofs.YtmfpgimblifleaaW.PrintLast Go.Proofs.YtmfpgimblifleaaW.PrintMore
attribute [local go_sem] max2_int min2_int max_two min_two max_three min_three max_four min_four
set_option linter.unusedVariables false
set_option linter.unusedSimpArgs false

/-! ### spec_doIf: function 21 -/
def spec_doIf.f (k : Nat) (l0 : List (List Int)) : Option ((List (List Int)) × Bool) := (spec_doGood.f k l0).bind fun t240 => (if t240 = true then (some (l0, true)) else (some (([] : List (List Int)), false)))
set_option maxHeartbeats 8000000 in
set_option maxRecDepth 100000 in
theorem spec_doIf.calls (k : Nat) (P0_ : Nat → Prop) (A0 : Option Addr) (c0 : Nat) (l0 : List (List Int)) (r1 : List (List Int)) (r2 : Bool) (w : World) (hs0 : Kd.V (Kd.slice 3 (Kd.int .i64)) 22 w w.heap.size (fun k_ => P0_ k_) (.slice A0 l0.length c0) l0) (h : spec_doIf.f k l0 = some (r1, r2)) :
 Calls Try.prog 21 #[.slice A0 l0.length c0] w fun e w' => ∃ v0_ : Value, e = .returned (.tuple #[v0_, .bool r2]) ∧ Kd.V (Kd.slice 3 (Kd.int .i64)) 22 w' w.heap.size (fun k_ => (P0_ k_ ∨ w.heap.size ≤ k_)) v0_ r1 ∧ Below w.heap.size w w' := by
 have HO0 := Aside0.mk (show Kd.V (Kd.slice 3 (Kd.int .i64)) 22 w w.heap.size (fun k_ => (P0_ k_ ∨ w.heap.size ≤ k_)) (.slice A0 l0.length c0) l0 from Kd.V_mono hs0 (fun k_ hk => .inl hk))
 have HB := Aside0.mk (Below.refl w.heap.size w)
 have H : ((spec_doGood.f k l0).bind fun t240 => (if t240 = true then (some (l0, true)) else (some (([] : List (List Int)), false)))) = some (r1, r2) := h
 clear h
 replace H := Option.bind_eq_some_iff.mp H
 obtain ⟨t240, A20, H⟩ := H
 replace H : (if t240 = true then (some (l0, true)) else (some (([] : List (List Int)), false))) = some (r1, r2) := H
 have A2 := Aside0.mk A20
 clear A20
 by_cases c3 : t240 = true
 · subst c3
   have H1 : (some (l0, true)) = some (r1, r2) := by rw [if_pos rfl] at H; exact H
   clear H
   have H := H1
   clear H1
   simp only [Option.some.injEq, Prod.mk.injEq] at H
   obtain ⟨rfl, rfl⟩ := H
   go_enter Try.func21, Try.ntmps21
   go_wp2_with (first | ((with_reducible refine gate_callee (f := 40) rfl ?_); refine goesL_ (some 5) rfl rfl Try.func40 (by kernel_rfl) rfl #[.slice A0 l0.length c0] rfl (by (try simp only [List.map_toArray, List.map_cons, List.map_nil]); first | done | rfl | (simp only [List.length_drop, List.length_take]; rfl)) ?_; (with_reducible refine (spec_doGood.calls k _ _ l0 true _ ?side1 ?side2 A2.out).mono ?_); (case side1 => repeat (first | exact (Kd.V_reads' HO0.out).2.2 | (with_reducible refine Kd.C_alloc ?_ _) | (with_reducible refine Kd.C_drewN ?_ _) | (with_reducible refine Kd.C_drew ?_))); (case side2 => exact (Kd.V_reads' HO0.out).2.1); rintro e w' ⟨rfl, ⟨nd, rfl⟩⟩; refine ⟨_, rfl, ?_⟩))
   go_ret2
   exact ⟨_, by first | rfl | (simp [errW_none, errW_some] <;> rfl) | (simp [*, errW_none, errW_some] <;> rfl), by (with_reducible repeat (first | apply Kd.V_alloc | apply Kd.V_drewN | apply Kd.V_drew)); exact HO0.out, by repeat (first | (with_reducible first | exact HB.out | apply below_alloc | apply pw_below_drewN | apply below_drew1) | exact HB.out)⟩
 · replace c3 := Bool.eq_false_iff.mpr c3
   subst c3
   have H1 : (some (([] : List (List Int)), false)) = some (r1, r2) := by rw [if_neg (show ¬ (false = true) by decide)] at H; exact H
   clear H
   have H := H1
   clear H1
   simp only [Option.some.injEq, Prod.mk.injEq] at H
   obtain ⟨rfl, rfl⟩ := H
   go_enter Try.func21, Try.ntmps21
   go_wp2_with (first | ((with_reducible refine gate_callee (f := 40) rfl ?_); refine goesL_ (some 5) rfl rfl Try.func40 (by kernel_rfl) rfl #[.slice A0 l0.length c0] rfl (by (try simp only [List.map_toArray, List.map_cons, List.map_nil]); first | done | rfl | (simp only [List.length_drop, List.length_take]; rfl)) ?_; (with_reducible refine (spec_doGood.calls k _ _ l0 false _ ?side1 ?side2 A2.out).mono ?_); (case side1 => repeat (first | exact (Kd.V_reads' HO0.out).2.2 | (with_reducible refine Kd.C_alloc ?_ _) | (with_reducible refine Kd.C_drewN ?_ _) | (with_reducible refine Kd.C_drew ?_))); (case side2 => exact (Kd.V_reads' HO0.out).2.1); rintro e w' ⟨rfl, ⟨nd, rfl⟩⟩; refine ⟨_, rfl, ?_⟩))
   go_ret2
   exact ⟨_, by first | rfl | (simp [errW_none, errW_some] <;> rfl) | (simp [*, errW_none, errW_some] <;> rfl), (by first | exact Kd.V_nil _ _ _ _ _ | exact Kd.V_mono (Kd.S_V (by first | exact Kd.S_nil _ _ _ _ _ | exact Kd.N_nil _ _ _ _ _ | exact Kd.V_nil _ _ _ _ _ | exact Kd.Q_nil _ _ _ _ _ | exact Kd.R_nil _ _ _ _ _)) (fun k_ hk => by first | exact ⟨(.inr (hk.1)), hk.2⟩ | exact (.inr (hk)))), by repeat (first | (with_reducible first | exact HB.out | apply below_alloc | apply pw_below_drewN | apply below_drew1) | exact HB.out)⟩

end Go.Proofs.Ytmfpgimblifleaa.A
