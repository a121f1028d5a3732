/- What the law FnExactPartsOf reaches, part 1: Lean functions with the same answers as the Go functions, the proofs that the Go code comes to these answers, and lemmas about them; no condition beyond those that each theorem names. -/
import Derived.Test.YtkhpojcplejdjaaCFnExactPartsOfw1
import Derived.Test.YtkhpojcplejdjaaProg
import Derived.Below
import Derived.Deep.Draws
import Derived.Deep.AppendLies
import Derived.Maps.AppendAt
import Derived.OwnWalk
import Derived.Laws.BytesArg
import Derived.Laws.MakeOwn
import Derived.Laws.OwnMore
import Derived.Deep.OwnRows
import Derived.Tactics
import Derived.Lib.ConvBytes
import Derived.Laws.Slices
import Derived.WalkKit
import Derived.KernelRfl
import Derived.RowKit3
import Derived.Deep.LoopGhost
import Derived.Deep.QuietTactic
import Derived.BigQuiet
import Derived.WideLaws
import Derived.Deep.DeepCutAuto
import Derived.Deep.CutBlock
import Derived.Deep.RegionHeld3
import Derived.Laws.Rows
import Derived.Lib.AppendStr
import Derived.ArgAppend
import Derived.Laws.IdiomCopy
import Derived.OrdersHeld
import Derived.Laws.BitsLemmas
import Derived.RowKit
import Derived.Shelf.SlicesE.IndexFunc
import Derived.Shelf.SlGeneric
import Derived.Shelf.SlLaysH
import Derived.Ground.SlgfProg
import Derived.Lib.SliceRun
import Derived.Laws.EntriesVeiled
import Derived.Laws.Cover3
-- made by a program of this repo (wip/pp.py) through the kit's printer
namespace Go.Proofs.Ytkhpojcplejdjaa.A
open Go.RowKit Go.Proofs.YtkhpojcplejdjaaW.PrintWords Go.Proofs.YtkhpojcplejdjaaW.PrintLast Go.Proofs.YtkhpojcplejdjaaW.PrintMore
attribute [local go_sem] max2_int min2_int max_two min_two max_three min_three max_four min_four
set_option linter.unusedVariables false
set_option linter.unusedSimpArgs false



def errW : Option Int → Value
 | none => .nilIface
 | some c => .iface 0 (.int .i64 c)
theorem errW_none : errW none = .nilIface := rfl
theorem errW_some (c : Int) : errW (some c) = .iface 0 (.int .i64 c) := rfl

theorem info3 : (Try.prog.info? 3).map (fun i => (i.zero, i.size, i.bytes)) = some (some (.int .i64 0), 1, 8) := by kernel_rfl
theorem info24 : (Try.prog.info? 24).map (fun i => (i.zero, i.size, i.bytes)) = some (some (.slice none 0 0), 1, 24) := by kernel_rfl
def rd_L1 (xs : List (List Int)) (i : Int) : (List Int) := xs.getD i.toNat ([] : List Int)
theorem at_L1 {w : World} {A : Option Addr} {n : Nat} {xs : List (List Int)} (h : Kd.C (Kd.slice 3 (Kd.int .i64)) w A n xs) (i : Int) (h0 : 0 ≤ i) (h1 : i < n) : ∃ ad A0 c0, A = some ad ∧ w.cell? (ad.add i.toNat) = some (.slice A0 (rd_L1 xs i).length c0) ∧ (rd_L1 xs i).length ≤ c0 ∧ (Kd.int .i64).C w A0 (rd_L1 xs i).length (rd_L1 xs i) := by
 obtain ⟨ad, c, e, _, hK, hc0⟩ := Kd.C_get h ([] : List Int) i h0 h1
 have hc : ∀ j u, c[j]? = some u → w.cell? (ad.add (i.toNat * 1 + j)) = some u := hc0
 obtain ⟨A0, c0, rfl, l0, g0⟩ := hK
 exact ⟨ad, A0, c0, e, by have hq := hc 0 _ rfl; rwa [Nat.mul_one, Nat.add_zero] at hq, l0, g0⟩

end Go.Proofs.Ytkhpojcplejdjaa.A

-- made by a program of this repo (wip/pp.py) through the kit's printer
namespace Go.Proofs.Ytkhpojcplejdjaa.A
open Go.RowKit Go.Proofs.YtkhpojcplejdjaaW.PrintWords Go.Proofs.YtkhpojcplejdjaaW.PrintLast Go.Proofs.YtkhpojcplejdjaaW.PrintMore
attribute [local go_sem] max2_int min2_int max_two min_two max_three min_three max_four min_four
set_option linter.unusedVariables false
set_option linter.unusedSimpArgs false

/-! ### laws_eqIntS: function 12 -/
def laws_eqIntS.l0 : Nat → List Int → List Int → Int → Option (Bool)
 | 0, _, _, _ => none
 | k + 1, x0, x1, x5 => if x5 < (x0.length : Int) then (if 0 ≤ x5 then (if x5 < (x1.length : Int) then (if (rd x0 x5) = (rd x1 x5) then (laws_eqIntS.l0 k x0 x1 (wrap64 (x5 + 1))) else (some false)) else (none)) else (none)) else (some true)
def laws_eqIntS.f (k : Nat) (l0 : List Int) (l1 : List Int) : Option (Bool) := if (l0.length : Int) = (l1.length : Int) then (laws_eqIntS.l0 k l0 l1 0) else (some false)
set_option maxHeartbeats 8000000 in
set_option maxRecDepth 100000 in
theorem laws_eqIntS.calls (k : Nat) (A0 : Option Addr) (c0 : Nat) (l0 : List Int) (A1 : Option Addr) (c1 : Nat) (l1 : List Int) (r : Bool) (w : World) (hr0 : Kd.C (Kd.int .i64) w A0 l0.length l0) (hc0 : l0.length ≤ c0) (hr1 : Kd.C (Kd.int .i64) w A1 l1.length l1) (hc1 : l1.length ≤ c1) (h : laws_eqIntS.f k l0 l1 = some r) :
 Calls Try.prog 12 #[.slice A0 l0.length c0, .slice A1 l1.length c1] w fun e w' => e = .returned (.bool r) ∧ Drawn0 w w' := by
 have HR0 := Aside0.mk hr0
 have HC0 := Aside0.mk hc0
 clear hr0 hc0
 have HR1 := Aside0.mk hr1
 have HC1 := Aside0.mk hc1
 clear hr1 hc1
 have H : (if (l0.length : Int) = (l1.length : Int) then (laws_eqIntS.l0 k l0 l1 0) else (some false)) = some r := h
 clear h
 by_cases c3 : (l0.length : Int) = (l1.length : Int)
 · rw [if_pos c3] at H
   have c3b0 : ((l0.length : Int) == (l1.length : Int)) = true := beq_iff_eq.mpr c3
   have c3b1 : ((l0.length : Int) != (l1.length : Int)) = false := bne_eq_false_iff_eq.mpr c3
   have c3b2 : (l0.length == l1.length) = true := by first | simpa using c3 | (simp at c3 ⊢; omega)
   clear c3
   have H' := Aside0.mk H
   clear H
   go_enter Try.func12, Try.ntmps12
   go_wp2
   repeat (go_quiet (fail); try go_wp2)
   go_loopg [5] k (fun kq v5 w' => ∃ (x5_1 : Int), v5 = .int .i64 x5_1 ∧ Aside0 (laws_eqIntS.l0 kq l0 l1 x5_1 = some r) ∧ Aside0 (kq ≤ k) ∧ Drawn0 w w')
   case atStart => exact ⟨(0), (by first | rfl | (simp; done) | (simp [*]; done)), H', ⟨Nat.le_refl _⟩, by repeat (first | exact Drawn0.refl _ | apply Drawn0.step)⟩
   case round =>
    clear H'
    try clear c1
    try clear p2
    try clear c3
    try clear c3b0
    try clear c3b1
    try clear c3b2
    obtain ⟨x5_1, rfl, HA, HK1, ⟨m1, rfl⟩⟩ := hrel
    cases gk with
    | zero => exact absurd HA.out (by simp [laws_eqIntS.l0])
    | succ k1 =>
     have H := HA.out
     clear HA
     simp only [laws_eqIntS.l0] at H
     by_cases c4 : x5_1 < (l0.length : Int)
     · rw [if_pos c4] at H
       have c4b0 : decide (x5_1 < (l0.length : Int)) = true := decide_eq_true c4
       clear c4
       by_cases c5 : 0 ≤ x5_1
       · rw [if_pos c5] at H
         have c5b0 : decide (0 ≤ x5_1) = true := decide_eq_true c5
         clear c5
         by_cases c6 : x5_1 < (l1.length : Int)
         · rw [if_pos c6] at H
           have c6b0 : decide (x5_1 < (l1.length : Int)) = true := decide_eq_true c6
           clear c6
           by_cases c7 : (rd l0 x5_1) = (rd l1 x5_1)
           · rw [if_pos c7] at H
             have c7b0 : ((rd l0 x5_1) == (rd l1 x5_1)) = true := beq_iff_eq.mpr c7
             have c7b1 : ((rd l0 x5_1) != (rd l1 x5_1)) = false := bne_eq_false_iff_eq.mpr c7
             clear c7
             have H' := Aside0.mk H
             clear H
             have p169 : 0 ≤ (x5_1 : Int) := of_decide_eq_true (by first | (with_reducible assumption) | assumption)
             have q169 : x5_1 < (l0.length : Int) := of_decide_eq_true (by first | (with_reducible assumption) | assumption)
             obtain ⟨ad169, e169, hx169_0⟩ := Kd.at_int HR0.out x5_1 p169 q169
             cases e169
             replace p169 := eq_true p169
             replace q169 := eq_true q169
             have p170 : 0 ≤ (x5_1 : Int) := of_decide_eq_true (by first | (with_reducible assumption) | assumption)
             have q170 : x5_1 < (l1.length : Int) := of_decide_eq_true (by first | (with_reducible assumption) | assumption)
             obtain ⟨ad170, e170, hx170_0⟩ := Kd.at_int HR1.out x5_1 p170 q170
             cases e170
             replace p170 := eq_true p170
             replace q170 := eq_true q170
             go_wp2
             repeat (go_quiet (fail); try go_wp2)
             go_roundg k1
             case measure => have := HK1.out; omega
             case rel => exact ⟨(wrap64 (x5_1 + 1)), (by first | rfl | (simp; done) | (simp [*]; done)), H', ⟨by have := HK1.out; omega⟩, by repeat (first | exact Drawn0.refl _ | apply Drawn0.step)⟩
           · rw [if_neg c7] at H
             have c7b0 : ((rd l0 x5_1) == (rd l1 x5_1)) = false := beq_eq_false_iff_ne.mpr c7
             have c7b1 : ((rd l0 x5_1) != (rd l1 x5_1)) = true := bne_iff_ne.mpr c7
             obtain rfl := Option.some.inj H
             have p169 : 0 ≤ (x5_1 : Int) := of_decide_eq_true (by first | (with_reducible assumption) | assumption)
             have q169 : x5_1 < (l0.length : Int) := of_decide_eq_true (by first | (with_reducible assumption) | assumption)
             obtain ⟨ad169, e169, hx169_0⟩ := Kd.at_int HR0.out x5_1 p169 q169
             cases e169
             replace p169 := eq_true p169
             replace q169 := eq_true q169
             have p170 : 0 ≤ (x5_1 : Int) := of_decide_eq_true (by first | (with_reducible assumption) | assumption)
             have q170 : x5_1 < (l1.length : Int) := of_decide_eq_true (by first | (with_reducible assumption) | assumption)
             obtain ⟨ad170, e170, hx170_0⟩ := Kd.at_int HR1.out x5_1 p170 q170
             cases e170
             replace p170 := eq_true p170
             replace q170 := eq_true q170
             go_wp2
             repeat (go_quiet (fail); try go_wp2)
             go_ret
             exact ⟨by first | rfl | (simp; done) | (simp [*]; done), by repeat (first | exact Drawn0.refl _ | apply Drawn0.step)⟩
         · rw [if_neg c6] at H
           exact absurd H (by simp)
       · rw [if_neg c5] at H
         exact absurd H (by simp)
     · rw [if_neg c4] at H
       have c4b0 : decide (x5_1 < (l0.length : Int)) = false := decide_eq_false c4
       clear c4
       obtain rfl := Option.some.inj H
       go_wp2
       repeat (go_quiet (fail); try go_wp2)
       go_ret
       exact ⟨by first | rfl | (simp; done) | (simp [*]; done), by repeat (first | exact Drawn0.refl _ | apply Drawn0.step)⟩
 · rw [if_neg c3] at H
   have c3b0 : ((l0.length : Int) == (l1.length : Int)) = false := beq_eq_false_iff_ne.mpr c3
   have c3b1 : ((l0.length : Int) != (l1.length : Int)) = true := bne_iff_ne.mpr c3
   have c3b2 : (l0.length == l1.length) = false := by first | simpa using c3 | (simp at c3 ⊢; omega)
   obtain rfl := Option.some.inj H
   go_enter Try.func12, Try.ntmps12
   go_wp2
   repeat (go_quiet (fail); try go_wp2)
   go_ret
   exact ⟨by first | rfl | (simp; done) | (simp [*]; done), by repeat (first | exact Drawn0.refl _ | apply Drawn0.step)⟩

end Go.Proofs.Ytkhpojcplejdjaa.A

-- made by a program of this repo (wip/pp.py) through the kit's printer
namespace Go.Proofs.Ytkhpojcplejdjaa.A
open Go.RowKit Go.Proofs.YtkhpojcplejdjaaW.PrintWords Go.Proofs.YtkhpojcplejdjaaW.PrintLast Go.Proofs.YtkhpojcplejdjaaW.PrintMore
attribute [local go_sem] max2_int min2_int max_two min_two max_three min_three max_four min_four
set_option linter.unusedVariables false
set_option linter.unusedSimpArgs false

/-! ### laws_eqIntSS: function 11 -/
def laws_eqIntSS.l0 : Nat → List (List Int) → List (List Int) → Int → Option (Bool)
 | 0, _, _, _ => none
 | k + 1, x0, x1, x5 => if x5 < (x0.length : Int) then (if 0 ≤ x5 then (if x5 < (x1.length : Int) then ((laws_eqIntS.f k (rd_L1 x0 x5) (rd_L1 x1 x5)).bind fun t173 => (if t173 = true then (laws_eqIntSS.l0 k x0 x1 (wrap64 (x5 + 1))) else (some false))) else (none)) else (none)) else (some true)
def laws_eqIntSS.f (k : Nat) (l0 : List (List Int)) (l1 : List (List Int)) : Option (Bool) := if (l0.length : Int) = (l1.length : Int) then (laws_eqIntSS.l0 k l0 l1 0) else (some false)
set_option maxHeartbeats 8000000 in
set_option maxRecDepth 100000 in
theorem laws_eqIntSS.calls (k : Nat) (A0 : Option Addr) (c0 : Nat) (l0 : List (List Int)) (A1 : Option Addr) (c1 : Nat) (l1 : List (List Int)) (r : Bool) (w : World) (hr0 : Kd.C (Kd.slice 3 (Kd.int .i64)) w A0 l0.length l0) (hc0 : l0.length ≤ c0) (hr1 : Kd.C (Kd.slice 3 (Kd.int .i64)) w A1 l1.length l1) (hc1 : l1.length ≤ c1) (h : laws_eqIntSS.f k l0 l1 = some r) :
 Calls Try.prog 11 #[.slice A0 l0.length c0, .slice A1 l1.length c1] w fun e w' => e = .returned (.bool r) ∧ Drawn0 w w' := by
 have HR0 := Aside0.mk hr0
 have HC0 := Aside0.mk hc0
 clear hr0 hc0
 have HR1 := Aside0.mk hr1
 have HC1 := Aside0.mk hc1
 clear hr1 hc1
 have H : (if (l0.length : Int) = (l1.length : Int) then (laws_eqIntSS.l0 k l0 l1 0) else (some false)) = some r := h
 clear h
 by_cases c3 : (l0.length : Int) = (l1.length : Int)
 · rw [if_pos c3] at H
   have c3b0 : ((l0.length : Int) == (l1.length : Int)) = true := beq_iff_eq.mpr c3
   have c3b1 : ((l0.length : Int) != (l1.length : Int)) = false := bne_eq_false_iff_eq.mpr c3
   have c3b2 : (l0.length == l1.length) = true := by first | simpa using c3 | (simp at c3 ⊢; omega)
   clear c3
   have H' := Aside0.mk H
   clear H
   go_enter Try.func11, Try.ntmps11
   go_wp2
   repeat (go_quiet (fail); try go_wp2)
   go_loopg [5] k (fun kq v5 w' => ∃ (x5_1 : Int), v5 = .int .i64 x5_1 ∧ Aside0 (laws_eqIntSS.l0 kq l0 l1 x5_1 = some r) ∧ Aside0 (kq ≤ k) ∧ Drawn0 w w')
   case atStart => exact ⟨(0), (by first | rfl | (simp; done) | (simp [*]; done)), H', ⟨Nat.le_refl _⟩, by repeat (first | exact Drawn0.refl _ | apply Drawn0.step)⟩
   case round =>
    clear H'
    try clear c1
    try clear p2
    try clear c3
    try clear c3b0
    try clear c3b1
    try clear c3b2
    obtain ⟨x5_1, rfl, HA, HK1, ⟨m1, rfl⟩⟩ := hrel
    cases gk with
    | zero => exact absurd HA.out (by simp [laws_eqIntSS.l0])
    | succ k1 =>
     have H := HA.out
     clear HA
     simp only [laws_eqIntSS.l0] at H
     by_cases c4 : x5_1 < (l0.length : Int)
     · rw [if_pos c4] at H
       have c4b0 : decide (x5_1 < (l0.length : Int)) = true := decide_eq_true c4
       clear c4
       by_cases c5 : 0 ≤ x5_1
       · rw [if_pos c5] at H
         have c5b0 : decide (0 ≤ x5_1) = true := decide_eq_true c5
         clear c5
         by_cases c6 : x5_1 < (l1.length : Int)
         · rw [if_pos c6] at H
           have c6b0 : decide (x5_1 < (l1.length : Int)) = true := decide_eq_true c6
           clear c6
           replace H := Option.bind_eq_some_iff.mp H
           obtain ⟨t173, A70, H⟩ := H
           replace H : (if t173 = true then (laws_eqIntSS.l0 k1 l0 l1 (wrap64 (x5_1 + 1))) else (some false)) = some r := H
           have A7 := Aside0.mk A70
           clear A70
           by_cases c8 : t173 = true
           · subst c8
             have H1 : (laws_eqIntSS.l0 k1 l0 l1 (wrap64 (x5_1 + 1))) = some r := by rw [if_pos rfl] at H; exact H
             clear H
             have H := H1
             clear H1
             have H' := Aside0.mk H
             clear H
             have p171 : 0 ≤ (x5_1 : Int) := of_decide_eq_true (by first | (with_reducible assumption) | assumption)
             have q171 : x5_1 < (l0.length : Int) := of_decide_eq_true (by first | (with_reducible assumption) | assumption)
             obtain ⟨ad171, A171_0, c171_0, e171, hx171_0, hl171_0, hi171_0⟩ := at_L1 HR0.out x5_1 p171 q171
             cases e171
             have HR171_0 := Aside0.mk hi171_0
             have HC171_0 := Aside0.mk hl171_0
             clear hi171_0 hl171_0
             replace p171 := eq_true p171
             replace q171 := eq_true q171
             have p172 : 0 ≤ (x5_1 : Int) := of_decide_eq_true (by first | (with_reducible assumption) | assumption)
             have q172 : x5_1 < (l1.length : Int) := of_decide_eq_true (by first | (with_reducible assumption) | assumption)
             obtain ⟨ad172, A172_0, c172_0, e172, hx172_0, hl172_0, hi172_0⟩ := at_L1 HR1.out x5_1 p172 q172
             cases e172
             have HR172_0 := Aside0.mk hi172_0
             have HC172_0 := Aside0.mk hl172_0
             clear hi172_0 hl172_0
             replace p172 := eq_true p172
             replace q172 := eq_true q172
             go_wp2_with (first | (go_at_call 12; (with_reducible refine (laws_eqIntS.calls k1 _ _ (rd_L1 l0 x5_1) _ _ (rd_L1 l1 x5_1) true _ ?side1 ?side2 ?side3 ?side4 A7.out).mono ?_); (case side1 => repeat (first | exact HR171_0.out | (with_reducible refine Kd.C_alloc ?_ _) | (with_reducible refine Kd.C_drewN ?_ _) | (with_reducible refine Kd.C_drew ?_))); (case side2 => exact HC171_0.out); (case side3 => repeat (first | exact HR172_0.out | (with_reducible refine Kd.C_alloc ?_ _) | (with_reducible refine Kd.C_drewN ?_ _) | (with_reducible refine Kd.C_drew ?_))); (case side4 => exact HC172_0.out); rintro e w' ⟨rfl, ⟨nd, rfl⟩⟩; (try first | exact ⟨rfl, _, World.drewN_drewN _ _ _⟩ | exact ⟨rfl, _, Eq.trans (World.drewN_drewN _ _ _) (congrArg (World.drewN _) (Nat.add_assoc _ _ _))⟩)))
             repeat (go_quiet (first | (go_at_call 12; (with_reducible refine (laws_eqIntS.calls k1 _ _ (rd_L1 l0 x5_1) _ _ (rd_L1 l1 x5_1) true _ ?side1 ?side2 ?side3 ?side4 A7.out).mono ?_); (case side1 => repeat (first | exact HR171_0.out | (with_reducible refine Kd.C_alloc ?_ _) | (with_reducible refine Kd.C_drewN ?_ _) | (with_reducible refine Kd.C_drew ?_))); (case side2 => exact HC171_0.out); (case side3 => repeat (first | exact HR172_0.out | (with_reducible refine Kd.C_alloc ?_ _) | (with_reducible refine Kd.C_drewN ?_ _) | (with_reducible refine Kd.C_drew ?_))); (case side4 => exact HC172_0.out); rintro e w' ⟨rfl, ⟨nd, rfl⟩⟩; (try first | exact ⟨rfl, _, World.drewN_drewN _ _ _⟩ | exact ⟨rfl, _, Eq.trans (World.drewN_drewN _ _ _) (congrArg (World.drewN _) (Nat.add_assoc _ _ _))⟩))); try go_wp2_with (first | (go_at_call 12; (with_reducible refine (laws_eqIntS.calls k1 _ _ (rd_L1 l0 x5_1) _ _ (rd_L1 l1 x5_1) true _ ?side1 ?side2 ?side3 ?side4 A7.out).mono ?_); (case side1 => repeat (first | exact HR171_0.out | (with_reducible refine Kd.C_alloc ?_ _) | (with_reducible refine Kd.C_drewN ?_ _) | (with_reducible refine Kd.C_drew ?_))); (case side2 => exact HC171_0.out); (case side3 => repeat (first | exact HR172_0.out | (with_reducible refine Kd.C_alloc ?_ _) | (with_reducible refine Kd.C_drewN ?_ _) | (with_reducible refine Kd.C_drew ?_))); (case side4 => exact HC172_0.out); rintro e w' ⟨rfl, ⟨nd, rfl⟩⟩; (try first | exact ⟨rfl, _, World.drewN_drewN _ _ _⟩ | exact ⟨rfl, _, Eq.trans (World.drewN_drewN _ _ _) (congrArg (World.drewN _) (Nat.add_assoc _ _ _))⟩))))
             go_roundg k1
             case measure => have := HK1.out; omega
             case rel => exact ⟨(wrap64 (x5_1 + 1)), (by first | rfl | (simp; done) | (simp [*]; done)), H', ⟨by have := HK1.out; omega⟩, by repeat (first | exact Drawn0.refl _ | apply Drawn0.step)⟩
           · replace c8 := Bool.eq_false_iff.mpr c8
             subst c8
             have H1 : (some false) = some r := by rw [if_neg (show ¬ (false = true) by decide)] at H; exact H
             clear H
             have H := H1
             clear H1
             obtain rfl := Option.some.inj H
             have p171 : 0 ≤ (x5_1 : Int) := of_decide_eq_true (by first | (with_reducible assumption) | assumption)
             have q171 : x5_1 < (l0.length : Int) := of_decide_eq_true (by first | (with_reducible assumption) | assumption)
             obtain ⟨ad171, A171_0, c171_0, e171, hx171_0, hl171_0, hi171_0⟩ := at_L1 HR0.out x5_1 p171 q171
             cases e171
             have HR171_0 := Aside0.mk hi171_0
             have HC171_0 := Aside0.mk hl171_0
             clear hi171_0 hl171_0
             replace p171 := eq_true p171
             replace q171 := eq_true q171
             have p172 : 0 ≤ (x5_1 : Int) := of_decide_eq_true (by first | (with_reducible assumption) | assumption)
             have q172 : x5_1 < (l1.length : Int) := of_decide_eq_true (by first | (with_reducible assumption) | assumption)
             obtain ⟨ad172, A172_0, c172_0, e172, hx172_0, hl172_0, hi172_0⟩ := at_L1 HR1.out x5_1 p172 q172
             cases e172
             have HR172_0 := Aside0.mk hi172_0
             have HC172_0 := Aside0.mk hl172_0
             clear hi172_0 hl172_0
             replace p172 := eq_true p172
             replace q172 := eq_true q172
             go_wp2_with (first | (go_at_call 12; (with_reducible refine (laws_eqIntS.calls k1 _ _ (rd_L1 l0 x5_1) _ _ (rd_L1 l1 x5_1) false _ ?side1 ?side2 ?side3 ?side4 A7.out).mono ?_); (case side1 => repeat (first | exact HR171_0.out | (with_reducible refine Kd.C_alloc ?_ _) | (with_reducible refine Kd.C_drewN ?_ _) | (with_reducible refine Kd.C_drew ?_))); (case side2 => exact HC171_0.out); (case side3 => repeat (first | exact HR172_0.out | (with_reducible refine Kd.C_alloc ?_ _) | (with_reducible refine Kd.C_drewN ?_ _) | (with_reducible refine Kd.C_drew ?_))); (case side4 => exact HC172_0.out); rintro e w' ⟨rfl, ⟨nd, rfl⟩⟩; (try first | exact ⟨rfl, _, World.drewN_drewN _ _ _⟩ | exact ⟨rfl, _, Eq.trans (World.drewN_drewN _ _ _) (congrArg (World.drewN _) (Nat.add_assoc _ _ _))⟩)))
             repeat (go_quiet (first | (go_at_call 12; (with_reducible refine (laws_eqIntS.calls k1 _ _ (rd_L1 l0 x5_1) _ _ (rd_L1 l1 x5_1) false _ ?side1 ?side2 ?side3 ?side4 A7.out).mono ?_); (case side1 => repeat (first | exact HR171_0.out | (with_reducible refine Kd.C_alloc ?_ _) | (with_reducible refine Kd.C_drewN ?_ _) | (with_reducible refine Kd.C_drew ?_))); (case side2 => exact HC171_0.out); (case side3 => repeat (first | exact HR172_0.out | (with_reducible refine Kd.C_alloc ?_ _) | (with_reducible refine Kd.C_drewN ?_ _) | (with_reducible refine Kd.C_drew ?_))); (case side4 => exact HC172_0.out); rintro e w' ⟨rfl, ⟨nd, rfl⟩⟩; (try first | exact ⟨rfl, _, World.drewN_drewN _ _ _⟩ | exact ⟨rfl, _, Eq.trans (World.drewN_drewN _ _ _) (congrArg (World.drewN _) (Nat.add_assoc _ _ _))⟩))); try go_wp2_with (first | (go_at_call 12; (with_reducible refine (laws_eqIntS.calls k1 _ _ (rd_L1 l0 x5_1) _ _ (rd_L1 l1 x5_1) false _ ?side1 ?side2 ?side3 ?side4 A7.out).mono ?_); (case side1 => repeat (first | exact HR171_0.out | (with_reducible refine Kd.C_alloc ?_ _) | (with_reducible refine Kd.C_drewN ?_ _) | (with_reducible refine Kd.C_drew ?_))); (case side2 => exact HC171_0.out); (case side3 => repeat (first | exact HR172_0.out | (with_reducible refine Kd.C_alloc ?_ _) | (with_reducible refine Kd.C_drewN ?_ _) | (with_reducible refine Kd.C_drew ?_))); (case side4 => exact HC172_0.out); rintro e w' ⟨rfl, ⟨nd, rfl⟩⟩; (try first | exact ⟨rfl, _, World.drewN_drewN _ _ _⟩ | exact ⟨rfl, _, Eq.trans (World.drewN_drewN _ _ _) (congrArg (World.drewN _) (Nat.add_assoc _ _ _))⟩))))
             go_ret
             exact ⟨by first | rfl | (simp; done) | (simp [*]; done), by repeat (first | exact Drawn0.refl _ | apply Drawn0.step)⟩
         · rw [if_neg c6] at H
           exact absurd H (by simp)
       · rw [if_neg c5] at H
         exact absurd H (by simp)
     · rw [if_neg c4] at H
       have c4b0 : decide (x5_1 < (l0.length : Int)) = false := decide_eq_false c4
       clear c4
       obtain rfl := Option.some.inj H
       go_wp2
       repeat (go_quiet (fail); try go_wp2)
       go_ret
       exact ⟨by first | rfl | (simp; done) | (simp [*]; done), by repeat (first | exact Drawn0.refl _ | apply Drawn0.step)⟩
 · rw [if_neg c3] at H
   have c3b0 : ((l0.length : Int) == (l1.length : Int)) = false := beq_eq_false_iff_ne.mpr c3
   have c3b1 : ((l0.length : Int) != (l1.length : Int)) = true := bne_iff_ne.mpr c3
   have c3b2 : (l0.length == l1.length) = false := by first | simpa using c3 | (simp at c3 ⊢; omega)
   obtain rfl := Option.some.inj H
   go_enter Try.func11, Try.ntmps11
   go_wp2
   repeat (go_quiet (fail); try go_wp2)
   go_ret
   exact ⟨by first | rfl | (simp; done) | (simp [*]; done), by repeat (first | exact Drawn0.refl _ | apply Drawn0.step)⟩

end Go.Proofs.Ytkhpojcplejdjaa.A

-- made by a program of this repo (wip/pp.py) through the kit's printer
namespace Go.Proofs.Ytkhpojcplejdjaa.A
open Go.RowKit Go.Proofs.YtkhpojcplejdjaaW.PrintWords Go.Proofs.YtkhpojcplejdjaaW.PrintLast Go.Proofs.YtkhpojcplejdjaaW.PrintMore
attribute [local go_sem] max2_int min2_int max_two min_two max_three min_three max_four min_four
set_option linter.unusedVariables false
set_option linter.unusedSimpArgs false

/-! ### laws_markIntS: function 14 -/
def laws_markIntS.l0 : Nat → List Int → Int → Int → Option (Int × List Int)
 | 0, _, _, _ => none
 | k + 1, x0, x1, x5 => if x5 < (x0.length : Int) then (if 0 ≤ x5 then (laws_markIntS.l0 k (x0.set (x5 : Int).toNat x1) (wrap64 (x1 + 1)) (wrap64 (x5 + 1))) else (none)) else (some (x1, x0))
def laws_markIntS.f (k : Nat) (l0 : List Int) (a1 : Int) : Option (Int × List Int) := laws_markIntS.l0 k l0 a1 0
set_option maxHeartbeats 8000000 in
set_option maxRecDepth 100000 in
theorem laws_markIntS.calls (k : Nat) (P0_ : Nat → Prop) (u9000_ : Value) (l0 : List Int) (a1 : Int) (r1 : Int) (r2 : List Int) (w0 w : World) (hB : Below w0.heap.size w0 w) (ho0 : Kd.R (Kd.int .i64) 3 w w0.heap.size P0_ u9000_ l0) (h : laws_markIntS.f k l0 a1 = some (r1, r2)) :
 Calls Try.prog 14 #[u9000_, .int .i64 a1] w fun e w' => e = .returned (.int .i64 r1) ∧ Kd.R (Kd.int .i64) 3 w' w0.heap.size (fun k_ => (P0_ k_ ∨ w.heap.size ≤ k_)) u9000_ r2 ∧ Below w0.heap.size w0 w' ∧ Kept w w' (fun k_ => P0_ k_) := by
 have HO0 := Aside0.mk (show Kd.R (Kd.int .i64) 3 w w0.heap.size (fun k_ => (P0_ k_ ∨ w.heap.size ≤ k_)) u9000_ l0 from Kd.R_mono ho0 (fun k_ hk => (.inl hk)))
 have HK := Aside0.mk (Kept.refl w (fun k_ => P0_ k_))
 have HW0 := Aside0.mk hB.size
 have HB := Aside0.mk hB
 clear hB
 have H : (laws_markIntS.l0 k l0 a1 0) = some (r1, r2) := h
 clear h
 have H' := Aside0.mk H
 clear H
 go_enter Try.func14, Try.ntmps14
 go_wp2
 go_loopg [1, 5] k (fun kq v1 v5 w' => ∃ (x0_1 : List Int) (x1_1 : Int) (x5_1 : Int), v1 = .int .i64 x1_1 ∧ v5 = .int .i64 x5_1 ∧ Aside0 (laws_markIntS.l0 kq x0_1 x1_1 x5_1 = some (r1, r2)) ∧ Aside0 (kq ≤ k) ∧ Aside0 (Kd.R (Kd.int .i64) 3 w' w0.heap.size (fun k_ => (P0_ k_ ∨ w.heap.size ≤ k_)) u9000_ x0_1) ∧ Aside0 (Kept w w' (fun k_ => P0_ k_)) ∧ Aside0 (Below w0.heap.size w0 w'))
 case atStart => exact ⟨(l0), (a1), (0), (by first | rfl | (simp; done) | (simp [*]; done)), (by first | rfl | (simp; done) | (simp [*]; done)), H', ⟨Nat.le_refl _⟩, ⟨by (with_reducible repeat (first | apply Kd.R_alloc | apply Kd.R_drewN | apply Kd.R_drew)); exact HO0.out⟩, ⟨by repeat (first | (with_reducible first | exact HK.out | apply Kept.alloc | apply Kept.drewN | apply Kept.drew) | exact HK.out)⟩, ⟨by repeat (first | (with_reducible first | exact HB.out | apply below_alloc | apply pw_below_drewN | apply below_drew1) | exact HB.out)⟩⟩
 case round =>
  clear H'
  try clear c1
  try clear p2
  obtain ⟨x0_1, x1_1, x5_1, rfl, rfl, HA, HK1, HO_0, HK, HB⟩ := hrel
  cases gk with
  | zero => exact absurd HA.out (by simp [laws_markIntS.l0])
  | succ k1 =>
   have H := HA.out
   clear HA
   simp only [laws_markIntS.l0] at H
   by_cases c3 : x5_1 < (x0_1.length : Int)
   · rw [if_pos c3] at H
     have c3b0 : decide (x5_1 < (x0_1.length : Int)) = true := decide_eq_true c3
     clear c3
     by_cases c4 : 0 ≤ x5_1
     · rw [if_pos c4] at H
       have c4b0 : decide (0 ≤ x5_1) = true := decide_eq_true c4
       clear c4
       obtain ⟨y174, hy174⟩ : ∃ y_ : List Int, y_ = (x0_1.set (x5_1 : Int).toNat x1_1) := ⟨_, rfl⟩
       replace H : (laws_markIntS.l0 k1 y174 (wrap64 (x1_1 + 1)) (wrap64 (x5_1 + 1))) = some (r1, r2) := by first | (rw [hy174]; with_reducible exact H) | (have H2_ := (Option.bind_some _ _).symm.trans H; rw [hy174]; with_reducible exact H2_) | (have H2_ := (Option.bind_some _ _).symm.trans H; with_reducible exact H2_) | with_reducible exact H | (rw [hy174]; exact H) | exact H
       have Ny174 := Aside0.mk hy174
       clear hy174
       have H' := Aside0.mk H
       clear H
       obtain ⟨Ao6, co6, eo6⟩ := Kd.R_slice HO_0.out
       subst eo6
       have p5 : 0 ≤ (x5_1 : Int) := of_decide_eq_true (by first | (with_reducible assumption) | assumption)
       have q5 : (x5_1 : Int) < ((x0_1.length : Int) : Int) := of_decide_eq_true (by first | (with_reducible assumption) | assumption)
       obtain ⟨go5, co5, eo5, gb5, gl5, cl5, HG5⟩ := Kd.R_form HO_0.out (by omega)
       (first | cases eo5 | (injection eo5 with ea_ en_ ec_; (first | subst ea_ | (injection ea_ with ea_; subst ea_)); subst ec_; clear en_))
       have GB5 := Aside0.mk gb5
       have GG5 := Aside0.mk HG5
       clear gb5 gl5 HG5
       have HMgo5 := Aside0.mk (show (P0_ go5 ∨ w.heap.size ≤ go5) from (HO_0.out.1 _ rfl))
       obtain ⟨hx5_0, hf5_0⟩ := Kd.R_celln 0 HO_0.out (x5_1 : Int) p5 q5
       replace p5 := eq_true p5
       replace q5 := eq_true q5
       have HP7 := Kd.R_putg HO_0.out (x5_1 : Int) x1_1
       go_wp2_with (first | ((with_reducible refine gate_store (t := 3) (p := 15) rfl ?_); refine store_event (t := 3) (p := 15) (v := ?vo_w8) (w1 := (wr.setCell ⟨go5, (x5_1 : Int).toNat, none⟩ (.int .i64 x1_1))) ?hg ?ho ?hn ?hr ?_; (case ho => rfl); (case hg => rfl); (case hn => rfl); (case hr => first | (go_simp; done) | (go_simp; rfl)); intro w8 hw; have hg : wr.grownBy w8 (some go5) := (by rw [hw]; exact HP7.2); have hp_ : Kd.R (Kd.int .i64) 3 w8 w0.heap.size (fun k_ => (P0_ k_ ∨ w.heap.size ≤ k_)) (.slice (some ⟨go5, 0, none⟩) x0_1.length co6) y174 := (by rw [hw, Ny174.out]; exact HP7.1); clear HP7; have n0_ := Aside0.mk (hp_); have n1_ := Aside0.mk ((by rw [hw]; exact below_set (HB.out) GB5.out : Below w0.heap.size w0 w8)); have n2_ := Aside0.mk (Kept.of_grown (S := (fun k_ => P0_ k_)) hg (by repeat (first | (with_reducible first | exact HK.out | apply Kept.alloc | apply Kept.drewN | apply Kept.drew) | exact HK.out)) (fun k_ e_ => (HO_0.out.1 k_ e_))); clear HO_0; clear HB; clear HK; have HO_0 := n0_; have HB := n1_; have HK := n2_; clear n0_ n1_ n2_; clear hg hw hp_))
       go_roundg k1
       case measure => have := HK1.out; omega
       case rel => exact ⟨(y174), (wrap64 (x1_1 + 1)), (wrap64 (x5_1 + 1)), (by first | rfl | (simp; done) | (simp [*]; done)), (by first | rfl | (simp; done) | (simp [*]; done)), H', ⟨by have := HK1.out; omega⟩, ⟨by (with_reducible repeat (first | apply Kd.R_alloc | apply Kd.R_drewN | apply Kd.R_drew)); exact HO_0.out⟩, ⟨by repeat (first | (with_reducible first | exact HK.out | apply Kept.alloc | apply Kept.drewN | apply Kept.drew) | exact HK.out)⟩, ⟨by repeat (first | (with_reducible first | exact HB.out | apply below_alloc | apply pw_below_drewN | apply below_drew1) | exact HB.out)⟩⟩
     · rw [if_neg c4] at H
       exact absurd H (by simp)
   · rw [if_neg c3] at H
     have c3b0 : decide (x5_1 < (x0_1.length : Int)) = false := decide_eq_false c3
     clear c3
     simp only [Option.some.injEq, Prod.mk.injEq] at H
     obtain ⟨rfl, rfl⟩ := H
     obtain ⟨Ao9, co9, eo9⟩ := Kd.R_slice HO_0.out
     subst eo9
     go_wp2
     go_ret
     exact ⟨by first | rfl | (simp [errW_none, errW_some] <;> rfl) | (simp [*, errW_none, errW_some] <;> rfl), by (with_reducible repeat (first | apply Kd.R_alloc | apply Kd.R_drewN | apply Kd.R_drew)); exact HO_0.out, by repeat (first | (with_reducible first | exact HB.out | apply below_alloc | apply pw_below_drewN | apply below_drew1) | exact HB.out), by repeat (first | (with_reducible first | exact HK.out | apply Kept.alloc | apply Kept.drewN | apply Kept.drew) | exact HK.out)⟩

end Go.Proofs.Ytkhpojcplejdjaa.A

-- made by a program of this repo (wip/pp.py) through the kit's printer
namespace Go.Proofs.Ytkhpojcplejdjaa.A
open Go.RowKit Go.Proofs.YtkhpojcplejdjaaW.PrintWords Go.Proofs.YtkhpojcplejdjaaW.PrintLast Go.Proofs.YtkhpojcplejdjaaW.PrintMore
attribute [local go_sem] max2_int min2_int max_two min_two max_three min_three max_four min_four
set_option linter.unusedVariables false
set_option linter.unusedSimpArgs false

/-! ### laws_heldIntS: function 16 -/
def laws_heldIntS.l0 : Nat → List Int → Int → Int → Option (Int)
 | 0, _, _, _ => none
 | k + 1, x0, x1, x5 => if x5 < (x0.length : Int) then (if 0 ≤ x5 then (if (rd x0 x5) = x1 then (laws_heldIntS.l0 k x0 (wrap64 (x1 + 1)) (wrap64 (x5 + 1))) else (some (-1))) else (none)) else (some x1)
def laws_heldIntS.f (k : Nat) (l0 : List Int) (a1 : Int) : Option (Int) := laws_heldIntS.l0 k l0 a1 0
set_option maxHeartbeats 8000000 in
set_option maxRecDepth 100000 in
theorem laws_heldIntS.calls (k : Nat) (A0 : Option Addr) (c0 : Nat) (l0 : List Int) (a1 : Int) (r : Int) (w : World) (hr0 : Kd.C (Kd.int .i64) w A0 l0.length l0) (hc0 : l0.length ≤ c0) (h : laws_heldIntS.f k l0 a1 = some r) :
 Calls Try.prog 16 #[.slice A0 l0.length c0, .int .i64 a1] w fun e w' => e = .returned (.int .i64 r) ∧ Drawn0 w w' := by
 have HR0 := Aside0.mk hr0
 have HC0 := Aside0.mk hc0
 clear hr0 hc0
 have H : (laws_heldIntS.l0 k l0 a1 0) = some r := h
 clear h
 have H' := Aside0.mk H
 clear H
 go_enter Try.func16, Try.ntmps16
 go_wp2
 go_loopg [1, 5] k (fun kq v1 v5 w' => ∃ (x1_1 : Int) (x5_1 : Int), v1 = .int .i64 x1_1 ∧ v5 = .int .i64 x5_1 ∧ Aside0 (laws_heldIntS.l0 kq l0 x1_1 x5_1 = some r) ∧ Aside0 (kq ≤ k) ∧ Drawn0 w w')
 case atStart => exact ⟨(a1), (0), (by first | rfl | (simp; done) | (simp [*]; done)), (by first | rfl | (simp; done) | (simp [*]; done)), H', ⟨Nat.le_refl _⟩, by repeat (first | exact Drawn0.refl _ | apply Drawn0.step)⟩
 case round =>
  clear H'
  try clear c1
  try clear p2
  obtain ⟨x1_1, x5_1, rfl, rfl, HA, HK1, ⟨m1, rfl⟩⟩ := hrel
  cases gk with
  | zero => exact absurd HA.out (by simp [laws_heldIntS.l0])
  | succ k1 =>
   have H := HA.out
   clear HA
   simp only [laws_heldIntS.l0] at H
   by_cases c3 : x5_1 < (l0.length : Int)
   · rw [if_pos c3] at H
     have c3b0 : decide (x5_1 < (l0.length : Int)) = true := decide_eq_true c3
     clear c3
     by_cases c4 : 0 ≤ x5_1
     · rw [if_pos c4] at H
       have c4b0 : decide (0 ≤ x5_1) = true := decide_eq_true c4
       clear c4
       by_cases c5 : (rd l0 x5_1) = x1_1
       · rw [if_pos c5] at H
         have c5b0 : ((rd l0 x5_1) == x1_1) = true := beq_iff_eq.mpr c5
         have c5b1 : ((rd l0 x5_1) != x1_1) = false := bne_eq_false_iff_eq.mpr c5
         clear c5
         have H' := Aside0.mk H
         clear H
         have p176 : 0 ≤ (x5_1 : Int) := of_decide_eq_true (by first | (with_reducible assumption) | assumption)
         have q176 : x5_1 < (l0.length : Int) := of_decide_eq_true (by first | (with_reducible assumption) | assumption)
         obtain ⟨ad176, e176, hx176_0⟩ := Kd.at_int HR0.out x5_1 p176 q176
         cases e176
         replace p176 := eq_true p176
         replace q176 := eq_true q176
         go_wp2
         go_roundg k1
         case measure => have := HK1.out; omega
         case rel => exact ⟨(wrap64 (x1_1 + 1)), (wrap64 (x5_1 + 1)), (by first | rfl | (simp; done) | (simp [*]; done)), (by first | rfl | (simp; done) | (simp [*]; done)), H', ⟨by have := HK1.out; omega⟩, by repeat (first | exact Drawn0.refl _ | apply Drawn0.step)⟩
       · rw [if_neg c5] at H
         have c5b0 : ((rd l0 x5_1) == x1_1) = false := beq_eq_false_iff_ne.mpr c5
         have c5b1 : ((rd l0 x5_1) != x1_1) = true := bne_iff_ne.mpr c5
         obtain rfl := Option.some.inj H
         have p176 : 0 ≤ (x5_1 : Int) := of_decide_eq_true (by first | (with_reducible assumption) | assumption)
         have q176 : x5_1 < (l0.length : Int) := of_decide_eq_true (by first | (with_reducible assumption) | assumption)
         obtain ⟨ad176, e176, hx176_0⟩ := Kd.at_int HR0.out x5_1 p176 q176
         cases e176
         replace p176 := eq_true p176
         replace q176 := eq_true q176
         go_wp2
         go_ret
         exact ⟨by first | rfl | (simp; done) | (simp [*]; done), by repeat (first | exact Drawn0.refl _ | apply Drawn0.step)⟩
     · rw [if_neg c4] at H
       exact absurd H (by simp)
   · rw [if_neg c3] at H
     have c3b0 : decide (x5_1 < (l0.length : Int)) = false := decide_eq_false c3
     clear c3
     obtain rfl := Option.some.inj H
     go_wp2
     go_ret
     exact ⟨by first | rfl | (simp; done) | (simp [*]; done), by repeat (first | exact Drawn0.refl _ | apply Drawn0.step)⟩

end Go.Proofs.Ytkhpojcplejdjaa.A

-- made by a program of this repo (wip/pp.py) through the kit's printer
namespace Go.Proofs.Ytkhpojcplejdjaa.A
open Go.RowKit Go.Proofs.YtkhpojcplejdjaaW.PrintWords Go.Proofs.YtkhpojcplejdjaaW.PrintLast Go.Proofs.YtkhpojcplejdjaaW.PrintMore
attribute [local go_sem] max2_int min2_int max_two min_two max_three min_three max_four min_four
set_option linter.unusedVariables false
set_option linter.unusedSimpArgs false

/-! ### laws_heldIntSS: function 15 -/
def laws_heldIntSS.l0 : Nat → List (List Int) → Int → Int → Option (Int)
 | 0, _, _, _ => none
 | k + 1, x0, x1, x5 => if x5 < (x0.length : Int) then (if 0 ≤ x5 then ((laws_heldIntS.f k (rd_L1 x0 x5) x1).bind fun t178 => (if t178 < 0 then (some (-1)) else (laws_heldIntSS.l0 k x0 t178 (wrap64 (x5 + 1))))) else (none)) else (some x1)
def laws_heldIntSS.f (k : Nat) (l0 : List (List Int)) (a1 : Int) : Option (Int) := laws_heldIntSS.l0 k l0 a1 0
set_option maxHeartbeats 8000000 in
set_option maxRecDepth 100000 in
theorem laws_heldIntSS.calls (k : Nat) (A0 : Option Addr) (c0 : Nat) (l0 : List (List Int)) (a1 : Int) (r : Int) (w : World) (hr0 : Kd.C (Kd.slice 3 (Kd.int .i64)) w A0 l0.length l0) (hc0 : l0.length ≤ c0) (h : laws_heldIntSS.f k l0 a1 = some r) :
 Calls Try.prog 15 #[.slice A0 l0.length c0, .int .i64 a1] w fun e w' => e = .returned (.int .i64 r) ∧ Drawn0 w w' := by
 have HR0 := Aside0.mk hr0
 have HC0 := Aside0.mk hc0
 clear hr0 hc0
 have H : (laws_heldIntSS.l0 k l0 a1 0) = some r := h
 clear h
 have H' := Aside0.mk H
 clear H
 go_enter Try.func15, Try.ntmps15
 go_wp2
 go_loopg [1, 5] k (fun kq v1 v5 w' => ∃ (x1_1 : Int) (x5_1 : Int), v1 = .int .i64 x1_1 ∧ v5 = .int .i64 x5_1 ∧ Aside0 (laws_heldIntSS.l0 kq l0 x1_1 x5_1 = some r) ∧ Aside0 (kq ≤ k) ∧ Drawn0 w w')
 case atStart => exact ⟨(a1), (0), (by first | rfl | (simp; done) | (simp [*]; done)), (by first | rfl | (simp; done) | (simp [*]; done)), H', ⟨Nat.le_refl _⟩, by repeat (first | exact Drawn0.refl _ | apply Drawn0.step)⟩
 case round =>
  clear H'
  try clear c1
  try clear p2
  obtain ⟨x1_1, x5_1, rfl, rfl, HA, HK1, ⟨m1, rfl⟩⟩ := hrel
  cases gk with
  | zero => exact absurd HA.out (by simp [laws_heldIntSS.l0])
  | succ k1 =>
   have H := HA.out
   clear HA
   simp only [laws_heldIntSS.l0] at H
   by_cases c3 : x5_1 < (l0.length : Int)
   · rw [if_pos c3] at H
     have c3b0 : decide (x5_1 < (l0.length : Int)) = true := decide_eq_true c3
     clear c3
     by_cases c4 : 0 ≤ x5_1
     · rw [if_pos c4] at H
       have c4b0 : decide (0 ≤ x5_1) = true := decide_eq_true c4
       clear c4
       replace H := Option.bind_eq_some_iff.mp H
       obtain ⟨t178, A50, H⟩ := H
       replace H : (if t178 < 0 then (some (-1)) else (laws_heldIntSS.l0 k1 l0 t178 (wrap64 (x5_1 + 1)))) = some r := H
       have A5 := Aside0.mk A50
       clear A50
       by_cases c6 : t178 < 0
       · rw [if_pos c6] at H
         have c6b0 : decide (t178 < 0) = true := decide_eq_true c6
         clear c6
         obtain rfl := Option.some.inj H
         have p177 : 0 ≤ (x5_1 : Int) := of_decide_eq_true (by first | (with_reducible assumption) | assumption)
         have q177 : x5_1 < (l0.length : Int) := of_decide_eq_true (by first | (with_reducible assumption) | assumption)
         obtain ⟨ad177, A177_0, c177_0, e177, hx177_0, hl177_0, hi177_0⟩ := at_L1 HR0.out x5_1 p177 q177
         cases e177
         have HR177_0 := Aside0.mk hi177_0
         have HC177_0 := Aside0.mk hl177_0
         clear hi177_0 hl177_0
         replace p177 := eq_true p177
         replace q177 := eq_true q177
         go_wp2_with (first | ((with_reducible refine gate_callee (f := 16) rfl ?_); refine goesL_ (some 17) rfl rfl Try.func16 (by kernel_rfl) rfl #[.slice A177_0 (rd_L1 l0 x5_1).length c177_0, .int .i64 x1_1] rfl (by (try simp only [List.map_toArray, List.map_cons, List.map_nil]); first | done | rfl | (simp only [List.length_drop, List.length_take]; rfl)) ?_; (with_reducible refine (laws_heldIntS.calls k1 _ _ (rd_L1 l0 x5_1) x1_1 t178 _ ?side1 ?side2 A5.out).mono ?_); (case side1 => repeat (first | exact HR177_0.out | (with_reducible refine Kd.C_alloc ?_ _) | (with_reducible refine Kd.C_drewN ?_ _) | (with_reducible refine Kd.C_drew ?_))); (case side2 => exact HC177_0.out); rintro e w' ⟨rfl, ⟨nd, rfl⟩⟩; refine ⟨_, rfl, ?_⟩))
         go_ret
         exact ⟨by first | rfl | (simp; done) | (simp [*]; done), by repeat (first | exact Drawn0.refl _ | apply Drawn0.step)⟩
       · rw [if_neg c6] at H
         have c6b0 : decide (t178 < 0) = false := decide_eq_false c6
         clear c6
         have H' := Aside0.mk H
         clear H
         have p177 : 0 ≤ (x5_1 : Int) := of_decide_eq_true (by first | (with_reducible assumption) | assumption)
         have q177 : x5_1 < (l0.length : Int) := of_decide_eq_true (by first | (with_reducible assumption) | assumption)
         obtain ⟨ad177, A177_0, c177_0, e177, hx177_0, hl177_0, hi177_0⟩ := at_L1 HR0.out x5_1 p177 q177
         cases e177
         have HR177_0 := Aside0.mk hi177_0
         have HC177_0 := Aside0.mk hl177_0
         clear hi177_0 hl177_0
         replace p177 := eq_true p177
         replace q177 := eq_true q177
         go_wp2_with (first | ((with_reducible refine gate_callee (f := 16) rfl ?_); refine goesL_ (some 17) rfl rfl Try.func16 (by kernel_rfl) rfl #[.slice A177_0 (rd_L1 l0 x5_1).length c177_0, .int .i64 x1_1] rfl (by (try simp only [List.map_toArray, List.map_cons, List.map_nil]); first | done | rfl | (simp only [List.length_drop, List.length_take]; rfl)) ?_; (with_reducible refine (laws_heldIntS.calls k1 _ _ (rd_L1 l0 x5_1) x1_1 t178 _ ?side1 ?side2 A5.out).mono ?_); (case side1 => repeat (first | exact HR177_0.out | (with_reducible refine Kd.C_alloc ?_ _) | (with_reducible refine Kd.C_drewN ?_ _) | (with_reducible refine Kd.C_drew ?_))); (case side2 => exact HC177_0.out); rintro e w' ⟨rfl, ⟨nd, rfl⟩⟩; refine ⟨_, rfl, ?_⟩))
         go_roundg k1
         case measure => have := HK1.out; omega
         case rel => exact ⟨(t178), (wrap64 (x5_1 + 1)), (by first | rfl | (simp; done) | (simp [*]; done)), (by first | rfl | (simp; done) | (simp [*]; done)), H', ⟨by have := HK1.out; omega⟩, by repeat (first | exact Drawn0.refl _ | apply Drawn0.step)⟩
     · rw [if_neg c4] at H
       exact absurd H (by simp)
   · rw [if_neg c3] at H
     have c3b0 : decide (x5_1 < (l0.length : Int)) = false := decide_eq_false c3
     clear c3
     obtain rfl := Option.some.inj H
     go_wp2
     go_ret
     exact ⟨by first | rfl | (simp; done) | (simp [*]; done), by repeat (first | exact Drawn0.refl _ | apply Drawn0.step)⟩

end Go.Proofs.Ytkhpojcplejdjaa.A

-- made by a program of this repo (wip/pp.py) through the kit's printer
namespace Go.Proofs.Ytkhpojcplejdjaa.A
open Go.RowKit Go.Proofs.YtkhpojcplejdjaaW.PrintWords Go.Proofs.YtkhpojcplejdjaaW.PrintLast Go.Proofs.YtkhpojcplejdjaaW.PrintMore
attribute [local go_sem] max2_int min2_int max_two min_two max_three min_three max_four min_four
set_option linter.unusedVariables false
set_option linter.unusedSimpArgs false

/-! ### laws_szIntS: function 40 -/
def laws_szIntS.f (l0 : List Int) (a1 : Int) : Option (Int) := if (wrap64 (a1 - (l0.length : Int))) < 0 then (some (-1)) else (some (wrap64 (a1 - (l0.length : Int))))
set_option maxHeartbeats 8000000 in
set_option maxRecDepth 100000 in
theorem laws_szIntS.calls (A0 : Option Addr) (c0 : Nat) (l0 : List Int) (a1 : Int) (r : Int) (w : World) (hr0 : Kd.C (Kd.int .i64) w A0 l0.length l0) (hc0 : l0.length ≤ c0) (h : laws_szIntS.f l0 a1 = some r) :
 Calls Try.prog 40 #[.slice A0 l0.length c0, .int .i64 a1] w fun e w' => e = .returned (.int .i64 r) ∧ Drawn0 w w' := by
 have HR0 := Aside0.mk hr0
 have HC0 := Aside0.mk hc0
 clear hr0 hc0
 have H : (if (wrap64 (a1 - (l0.length : Int))) < 0 then (some (-1)) else (some (wrap64 (a1 - (l0.length : Int))))) = some r := h
 clear h
 by_cases c3 : (wrap64 (a1 - (l0.length : Int))) < 0
 · rw [if_pos c3] at H
   have c3b0 : decide ((wrap64 (a1 - (l0.length : Int))) < 0) = true := decide_eq_true c3
   clear c3
   obtain rfl := Option.some.inj H
   go_enter Try.func40, Try.ntmps40
   go_wp2
   go_ret
   exact ⟨by first | rfl | (simp; done) | (simp [*]; done), by repeat (first | exact Drawn0.refl _ | apply Drawn0.step)⟩
 · rw [if_neg c3] at H
   have c3b0 : decide ((wrap64 (a1 - (l0.length : Int))) < 0) = false := decide_eq_false c3
   clear c3
   obtain rfl := Option.some.inj H
   go_enter Try.func40, Try.ntmps40
   go_wp2
   go_ret
   exact ⟨by first | rfl | (simp; done) | (simp [*]; done), by repeat (first | exact Drawn0.refl _ | apply Drawn0.step)⟩

end Go.Proofs.Ytkhpojcplejdjaa.A

-- made by a program of this repo (wip/pp.py) through the kit's printer
namespace Go.Proofs.Ytkhpojcplejdjaa.A
open Go.RowKit Go.Proofs.YtkhpojcplejdjaaW.PrintWords Go.Proofs.YtkhpojcplejdjaaW.PrintLast Go.Proofs.YtkhpojcplejdjaaW.PrintMore
attribute [local go_sem] max2_int min2_int max_two min_two max_three min_three max_four min_four
set_option linter.unusedVariables false
set_option linter.unusedSimpArgs false

/-! ### laws_szIntSS: function 7 -/
def laws_szIntSS.l0 : Nat → List (List Int) → Int → Int → Option (Int)
 | 0, _, _, _ => none
 | k + 1, x0, x1, x5 => if x5 < (x0.length : Int) then (if 0 ≤ x5 then ((laws_szIntS.f (rd_L1 x0 x5) x1).bind fun t102 => (if t102 < 0 then (some (-1)) else (laws_szIntSS.l0 k x0 t102 (wrap64 (x5 + 1))))) else (none)) else (some x1)
def laws_szIntSS.f (k : Nat) (l0 : List (List Int)) (a1 : Int) : Option (Int) := if (wrap64 (a1 - (l0.length : Int))) < 0 then (some (-1)) else (laws_szIntSS.l0 k l0 (wrap64 (a1 - (l0.length : Int))) 0)
set_option maxHeartbeats 8000000 in
set_option maxRecDepth 100000 in
theorem laws_szIntSS.calls (k : Nat) (A0 : Option Addr) (c0 : Nat) (l0 : List (List Int)) (a1 : Int) (r : Int) (w : World) (hr0 : Kd.C (Kd.slice 3 (Kd.int .i64)) w A0 l0.length l0) (hc0 : l0.length ≤ c0) (h : laws_szIntSS.f k l0 a1 = some r) :
 Calls Try.prog 7 #[.slice A0 l0.length c0, .int .i64 a1] w fun e w' => e = .returned (.int .i64 r) ∧ Drawn0 w w' := by
 have HR0 := Aside0.mk hr0
 have HC0 := Aside0.mk hc0
 clear hr0 hc0
 have H : (if (wrap64 (a1 - (l0.length : Int))) < 0 then (some (-1)) else (laws_szIntSS.l0 k l0 (wrap64 (a1 - (l0.length : Int))) 0)) = some r := h
 clear h
 by_cases c3 : (wrap64 (a1 - (l0.length : Int))) < 0
 · rw [if_pos c3] at H
   have c3b0 : decide ((wrap64 (a1 - (l0.length : Int))) < 0) = true := decide_eq_true c3
   clear c3
   obtain rfl := Option.some.inj H
   go_enter Try.func7, Try.ntmps7
   go_wp2
   go_ret
   exact ⟨by first | rfl | (simp; done) | (simp [*]; done), by repeat (first | exact Drawn0.refl _ | apply Drawn0.step)⟩
 · rw [if_neg c3] at H
   have c3b0 : decide ((wrap64 (a1 - (l0.length : Int))) < 0) = false := decide_eq_false c3
   clear c3
   have H' := Aside0.mk H
   clear H
   go_enter Try.func7, Try.ntmps7
   go_wp2
   go_loopg [1, 5] k (fun kq v1 v5 w' => ∃ (x1_1 : Int) (x5_1 : Int), v1 = .int .i64 x1_1 ∧ v5 = .int .i64 x5_1 ∧ Aside0 (laws_szIntSS.l0 kq l0 x1_1 x5_1 = some r) ∧ Aside0 (kq ≤ k) ∧ Drawn0 w w')
   case atStart => exact ⟨(wrap64 (a1 - (l0.length : Int))), (0), (by first | rfl | (simp; done) | (simp [*]; done)), (by first | rfl | (simp; done) | (simp [*]; done)), H', ⟨Nat.le_refl _⟩, by repeat (first | exact Drawn0.refl _ | apply Drawn0.step)⟩
   case round =>
    clear H'
    try clear p2
    try clear c3
    try clear c3b0
    obtain ⟨x1_1, x5_1, rfl, rfl, HA, HK1, ⟨m1, rfl⟩⟩ := hrel
    cases gk with
    | zero => exact absurd HA.out (by simp [laws_szIntSS.l0])
    | succ k1 =>
     have H := HA.out
     clear HA
     simp only [laws_szIntSS.l0] at H
     by_cases c4 : x5_1 < (l0.length : Int)
     · rw [if_pos c4] at H
       have c4b0 : decide (x5_1 < (l0.length : Int)) = true := decide_eq_true c4
       clear c4
       by_cases c5 : 0 ≤ x5_1
       · rw [if_pos c5] at H
         have c5b0 : decide (0 ≤ x5_1) = true := decide_eq_true c5
         clear c5
         replace H := Option.bind_eq_some_iff.mp H
         obtain ⟨t102, A60, H⟩ := H
         replace H : (if t102 < 0 then (some (-1)) else (laws_szIntSS.l0 k1 l0 t102 (wrap64 (x5_1 + 1)))) = some r := H
         have A6 := Aside0.mk A60
         clear A60
         by_cases c7 : t102 < 0
         · rw [if_pos c7] at H
           have c7b0 : decide (t102 < 0) = true := decide_eq_true c7
           clear c7
           obtain rfl := Option.some.inj H
           have p101 : 0 ≤ (x5_1 : Int) := of_decide_eq_true (by first | (with_reducible assumption) | assumption)
           have q101 : x5_1 < (l0.length : Int) := of_decide_eq_true (by first | (with_reducible assumption) | assumption)
           obtain ⟨ad101, A101_0, c101_0, e101, hx101_0, hl101_0, hi101_0⟩ := at_L1 HR0.out x5_1 p101 q101
           cases e101
           have HR101_0 := Aside0.mk hi101_0
           have HC101_0 := Aside0.mk hl101_0
           clear hi101_0 hl101_0
           replace p101 := eq_true p101
           replace q101 := eq_true q101
           go_wp2_with (first | ((with_reducible refine gate_callee (f := 40) rfl ?_); refine goesL_ (some 23) rfl rfl Try.func40 (by kernel_rfl) rfl #[.slice A101_0 (rd_L1 l0 x5_1).length c101_0, .int .i64 x1_1] rfl (by (try simp only [List.map_toArray, List.map_cons, List.map_nil]); first | done | rfl | (simp only [List.length_drop, List.length_take]; rfl)) ?_; (with_reducible refine (laws_szIntS.calls _ _ (rd_L1 l0 x5_1) x1_1 t102 _ ?side1 ?side2 A6.out).mono ?_); (case side1 => repeat (first | exact HR101_0.out | (with_reducible refine Kd.C_alloc ?_ _) | (with_reducible refine Kd.C_drewN ?_ _) | (with_reducible refine Kd.C_drew ?_))); (case side2 => exact HC101_0.out); rintro e w' ⟨rfl, ⟨nd, rfl⟩⟩; refine ⟨_, rfl, ?_⟩))
           go_ret
           exact ⟨by first | rfl | (simp; done) | (simp [*]; done), by repeat (first | exact Drawn0.refl _ | apply Drawn0.step)⟩
         · rw [if_neg c7] at H
           have c7b0 : decide (t102 < 0) = false := decide_eq_false c7
           clear c7
           have H' := Aside0.mk H
           clear H
           have p101 : 0 ≤ (x5_1 : Int) := of_decide_eq_true (by first | (with_reducible assumption) | assumption)
           have q101 : x5_1 < (l0.length : Int) := of_decide_eq_true (by first | (with_reducible assumption) | assumption)
           obtain ⟨ad101, A101_0, c101_0, e101, hx101_0, hl101_0, hi101_0⟩ := at_L1 HR0.out x5_1 p101 q101
           cases e101
           have HR101_0 := Aside0.mk hi101_0
           have HC101_0 := Aside0.mk hl101_0
           clear hi101_0 hl101_0
           replace p101 := eq_true p101
           replace q101 := eq_true q101
           go_wp2_with (first | ((with_reducible refine gate_callee (f := 40) rfl ?_); refine goesL_ (some 23) rfl rfl Try.func40 (by kernel_rfl) rfl #[.slice A101_0 (rd_L1 l0 x5_1).length c101_0, .int .i64 x1_1] rfl (by (try simp only [List.map_toArray, List.map_cons, List.map_nil]); first | done | rfl | (simp only [List.length_drop, List.length_take]; rfl)) ?_; (with_reducible refine (laws_szIntS.calls _ _ (rd_L1 l0 x5_1) x1_1 t102 _ ?side1 ?side2 A6.out).mono ?_); (case side1 => repeat (first | exact HR101_0.out | (with_reducible refine Kd.C_alloc ?_ _) | (with_reducible refine Kd.C_drewN ?_ _) | (with_reducible refine Kd.C_drew ?_))); (case side2 => exact HC101_0.out); rintro e w' ⟨rfl, ⟨nd, rfl⟩⟩; refine ⟨_, rfl, ?_⟩))
           go_roundg k1
           case measure => have := HK1.out; omega
           case rel => exact ⟨(t102), (wrap64 (x5_1 + 1)), (by first | rfl | (simp; done) | (simp [*]; done)), (by first | rfl | (simp; done) | (simp [*]; done)), H', ⟨by have := HK1.out; omega⟩, by repeat (first | exact Drawn0.refl _ | apply Drawn0.step)⟩
       · rw [if_neg c5] at H
         exact absurd H (by simp)
     · rw [if_neg c4] at H
       have c4b0 : decide (x5_1 < (l0.length : Int)) = false := decide_eq_false c4
       clear c4
       obtain rfl := Option.some.inj H
       go_wp2
       go_ret
       exact ⟨by first | rfl | (simp; done) | (simp [*]; done), by repeat (first | exact Drawn0.refl _ | apply Drawn0.step)⟩

end Go.Proofs.Ytkhpojcplejdjaa.A

-- made by a program of this repo (wip/pp.py) through the kit's printer
namespace Go.Proofs.Ytkhpojcplejdjaa.A
open Go.RowKit Go.Proofs.YtkhpojcplejdjaaW.PrintWords Go.Proofs.YtkhpojcplejdjaaW.PrintLast Go.Proofs.YtkhpojcplejdjaaW.PrintMore
attribute [local go_sem] max2_int min2_int max_two min_two max_three min_three max_four min_four
set_option linter.unusedVariables false
set_option linter.unusedSimpArgs false

/-! ### laws_toIntS: function 38 -/
def laws_toIntS.l0 : Nat → List Int → List Int → Int → Option (List Int)
 | 0, _, _, _ => none
 | k + 1, x0, x3, x4 => if x4 < (x0.length : Int) then (if 0 ≤ x4 then (if x4 < (x3.length : Int) then (laws_toIntS.l0 k x0 (x3.set (x4 : Int).toNat (rd x0 x4)) (wrap64 (x4 + 1))) else (none)) else (none)) else (some x3)
def laws_toIntS.f (k : Nat) (l0 : List Int) : Option (List Int) := if 0 ≤ (l0.length : Int) then (if ((l0.length : Int) : Int).toNat ≤ 35184372088832 then (laws_toIntS.l0 k l0 (List.replicate ((l0.length : Int) : Int).toNat 0) 0) else (none)) else (none)
set_option maxHeartbeats 8000000 in
set_option maxRecDepth 100000 in
theorem laws_toIntS.calls (k : Nat) (A0 : Option Addr) (c0 : Nat) (l0 : List Int) (r : List Int) (w : World) (hr0 : Kd.C (Kd.int .i64) w A0 l0.length l0) (hc0 : l0.length ≤ c0) (h : laws_toIntS.f k l0 = some r) :
 Calls Try.prog 38 #[.slice A0 l0.length c0] w fun e w' => ∃ v0_ : Value, e = .returned (v0_) ∧ Kd.R (Kd.int .i64) 3 w' w.heap.size (fun _ => True) v0_ r ∧ Below w.heap.size w w' := by
 have HR0 := Aside0.mk hr0
 have HC0 := Aside0.mk hc0
 clear hr0 hc0
 have HB := Aside0.mk (Below.refl w.heap.size w)
 have H : (if 0 ≤ (l0.length : Int) then (if ((l0.length : Int) : Int).toNat ≤ 35184372088832 then (laws_toIntS.l0 k l0 (List.replicate ((l0.length : Int) : Int).toNat 0) 0) else (none)) else (none)) = some r := h
 clear h
 by_cases c2 : 0 ≤ (l0.length : Int)
 · rw [if_pos c2] at H
   have c2b0 := eq_true c2
   have c2b1 : decide (0 ≤ (l0.length : Int)) = true := decide_eq_true c2
   clear c2
   by_cases c3 : ((l0.length : Int) : Int).toNat ≤ 35184372088832
   · rw [if_pos c3] at H
     have c3b0 := eq_true c3
     have c3b1 : decide (((l0.length : Int) : Int).toNat ≤ 35184372088832) = true := decide_eq_true c3
     clear c3
     obtain ⟨y149, hy149⟩ : ∃ y_ : List Int, y_ = (List.replicate ((l0.length : Int) : Int).toNat 0) := ⟨_, rfl⟩
     replace H : (laws_toIntS.l0 k l0 y149 0) = some r := by first | (rw [hy149]; with_reducible exact H) | (have H2_ := (Option.bind_some _ _).symm.trans H; rw [hy149]; with_reducible exact H2_) | (have H2_ := (Option.bind_some _ _).symm.trans H; with_reducible exact H2_) | with_reducible exact H | (rw [hy149]; exact H) | exact H
     have Ny149 := Aside0.mk hy149
     clear hy149
     have H' := Aside0.mk H
     clear H
     go_enter Try.func38, Try.ntmps38
     go_wp2_with (first | ((with_reducible refine gate_dst (N := 7) rfl ?_); refine Kd.R_make (Kd.int .i64) _ 3 rfl (N := 7) rfl 24 _ _ rfl (l0.length : Int) rfl rfl Try.underlying24 (.int .i64 0) 8 info3 rfl (by decide) (by omega) 0 (ok := fun _ => True) (okp := fun _ => True) rfl (fun _ hk => hk) trivial (of_decide_eq_true (by first | (with_reducible assumption) | assumption)) (Nat.le_trans (Nat.mul_le_mul_right _ (of_decide_eq_true (by first | (with_reducible assumption) | assumption) : (l0.length : Int).toNat ≤ 35184372088832)) (by omega)) (Below.refl _ _) (Nat.le_refl _) ?_; intro v150 w4 ho5 hb hg_ hnew_; clear hg_ hnew_; (first | rw [← Ny149.out] at ho5 | (simp only [Int.reduceToNat] at ho5; rw [← Ny149.out] at ho5)); have n0_ := Aside0.mk (Kd.R_lower ho5 (below_size (by repeat (first | (with_reducible first | exact HB.out | apply below_alloc | apply pw_below_drewN | apply below_drew1) | exact HB.out)))); have n1_ := Aside0.mk (below_step (by repeat (first | (with_reducible first | exact HB.out | apply below_alloc | apply pw_below_drewN | apply below_drew1) | exact HB.out)) hb); clear HB; have HO151 := n0_; have HB := n1_; clear n0_ n1_; clear hb ho5))
     go_loopg [4] k (fun kq v4 w' => ∃ (x3_1 : List Int) (x4_1 : Int), v4 = .int .i64 x4_1 ∧ Aside0 (laws_toIntS.l0 kq l0 x3_1 x4_1 = some r) ∧ Aside0 (kq ≤ k) ∧ Aside0 (Kd.R (Kd.int .i64) 3 w' w.heap.size (fun _ => True) v150 x3_1) ∧ Aside0 (Below w.heap.size w w'))
     case atStart => exact ⟨(y149), (0), (by first | rfl | (simp; done) | (simp [*]; done)), H', ⟨Nat.le_refl _⟩, ⟨by (with_reducible repeat (first | apply Kd.R_alloc | apply Kd.R_drewN | apply Kd.R_drew)); exact HO151.out⟩, ⟨by repeat (first | (with_reducible first | exact HB.out | apply below_alloc | apply pw_below_drewN | apply below_drew1) | exact HB.out)⟩⟩
     case round =>
      clear H'
      try clear c2
      try clear c2b0
      try clear c2b1
      try clear p2
      try clear c3
      try clear c3b0
      try clear c3b1
      obtain ⟨x3_1, x4_1, rfl, HA, HK1, HO_3, HB⟩ := hrel
      cases gk with
      | zero => exact absurd HA.out (by simp [laws_toIntS.l0])
      | succ k1 =>
       have H := HA.out
       clear HA
       simp only [laws_toIntS.l0] at H
       by_cases c6 : x4_1 < (l0.length : Int)
       · rw [if_pos c6] at H
         have c6b0 : decide (x4_1 < (l0.length : Int)) = true := decide_eq_true c6
         clear c6
         by_cases c7 : 0 ≤ x4_1
         · rw [if_pos c7] at H
           have c7b0 : decide (0 ≤ x4_1) = true := decide_eq_true c7
           clear c7
           by_cases c8 : x4_1 < (x3_1.length : Int)
           · rw [if_pos c8] at H
             have c8b0 : decide (x4_1 < (x3_1.length : Int)) = true := decide_eq_true c8
             clear c8
             obtain ⟨y153, hy153⟩ : ∃ y_ : List Int, y_ = (x3_1.set (x4_1 : Int).toNat (rd l0 x4_1)) := ⟨_, rfl⟩
             replace H : (laws_toIntS.l0 k1 l0 y153 (wrap64 (x4_1 + 1))) = some r := by first | (rw [hy153]; with_reducible exact H) | (have H2_ := (Option.bind_some _ _).symm.trans H; rw [hy153]; with_reducible exact H2_) | (have H2_ := (Option.bind_some _ _).symm.trans H; with_reducible exact H2_) | with_reducible exact H | (rw [hy153]; exact H) | exact H
             have Ny153 := Aside0.mk hy153
             clear hy153
             have H' := Aside0.mk H
             clear H
             have p152 : 0 ≤ (x4_1 : Int) := of_decide_eq_true (by first | (with_reducible assumption) | assumption)
             have q152 : x4_1 < (l0.length : Int) := of_decide_eq_true (by first | (with_reducible assumption) | assumption)
             obtain ⟨ad152, e152, hx152_0⟩ := Kd.at_int HR0.out x4_1 p152 q152
             cases e152
             replace hx152_0 := (HB.out.cell (World.block_lt_of_cell? w _ hx152_0)).trans hx152_0
             replace p152 := eq_true p152
             replace q152 := eq_true q152
             have p9 : 0 ≤ (x4_1 : Int) := of_decide_eq_true (by first | (with_reducible assumption) | assumption)
             have q9 : (x4_1 : Int) < ((x3_1.length : Int) : Int) := of_decide_eq_true (by first | (with_reducible assumption) | assumption)
             obtain ⟨go9, co9, eo9, gb9, gl9, cl9, HG9⟩ := Kd.R_form HO_3.out (by omega)
             (first | cases eo9 | (injection eo9 with ea_ en_ ec_; (first | subst ea_ | (injection ea_ with ea_; subst ea_)); subst ec_; clear en_))
             have GB9 := Aside0.mk gb9
             have GG9 := Aside0.mk HG9
             clear gb9 gl9 HG9
             obtain ⟨hx9_0, hf9_0⟩ := Kd.R_celln 0 HO_3.out (x4_1 : Int) p9 q9
             replace p9 := eq_true p9
             replace q9 := eq_true q9
             have HP10 := Kd.R_putg HO_3.out (x4_1 : Int) (rd l0 x4_1)
             go_wp2_with (first | ((with_reducible refine gate_store (t := 3) (p := 20) rfl ?_); refine store_event (t := 3) (p := 20) (v := ?vo_w11) (w1 := (wr.setCell ⟨go9, (x4_1 : Int).toNat, none⟩ (.int .i64 (rd l0 x4_1)))) ?hg ?ho ?hn ?hr ?_; (case ho => rfl); (case hg => rfl); (case hn => rfl); (case hr => first | (go_simp; done) | (go_simp; rfl)); intro w11 hw; have hg : wr.grownBy w11 (some go9) := (by rw [hw]; exact HP10.2); have hp_ : Kd.R (Kd.int .i64) 3 w11 w.heap.size (fun _ => True) (.slice (some ⟨go9, 0, none⟩) x3_1.length co9) y153 := (by rw [hw, Ny153.out]; exact HP10.1); clear HP10; have n0_ := Aside0.mk (hp_); have n1_ := Aside0.mk ((by rw [hw]; exact below_set (HB.out) GB9.out : Below w.heap.size w w11)); clear HO_3; clear HB; have HO_3 := n0_; have HB := n1_; clear n0_ n1_; clear hg hw hp_))
             go_roundg k1
             case measure => have := HK1.out; omega
             case rel => exact ⟨(y153), (wrap64 (x4_1 + 1)), (by first | rfl | (simp; done) | (simp [*]; done)), H', ⟨by have := HK1.out; omega⟩, ⟨by (with_reducible repeat (first | apply Kd.R_alloc | apply Kd.R_drewN | apply Kd.R_drew)); exact HO_3.out⟩, ⟨by repeat (first | (with_reducible first | exact HB.out | apply below_alloc | apply pw_below_drewN | apply below_drew1) | exact HB.out)⟩⟩
           · rw [if_neg c8] at H
             exact absurd H (by simp)
         · rw [if_neg c7] at H
           exact absurd H (by simp)
       · rw [if_neg c6] at H
         have c6b0 : decide (x4_1 < (l0.length : Int)) = false := decide_eq_false c6
         clear c6
         obtain rfl := Option.some.inj H
         go_wp2
         go_ret
         exact ⟨_, by first | rfl | (simp [errW_none, errW_some] <;> rfl) | (simp [*, errW_none, errW_some] <;> rfl), by (with_reducible repeat (first | apply Kd.R_alloc | apply Kd.R_drewN | apply Kd.R_drew)); exact HO_3.out, by repeat (first | (with_reducible first | exact HB.out | apply below_alloc | apply pw_below_drewN | apply below_drew1) | exact HB.out)⟩
   · rw [if_neg c3] at H
     exact absurd H (by simp)
 · rw [if_neg c2] at H
   exact absurd H (by simp)

end Go.Proofs.Ytkhpojcplejdjaa.A

-- made by a program of this repo (wip/pp.py) through the kit's printer
namespace Go.Proofs.Ytkhpojcplejdjaa.A
open Go.RowKit Go.Proofs.YtkhpojcplejdjaaW.PrintWords Go.Proofs.YtkhpojcplejdjaaW.PrintLast Go.Proofs.YtkhpojcplejdjaaW.PrintMore
attribute [local go_sem] max2_int min2_int max_two min_two max_three min_three max_four min_four
set_option linter.unusedVariables false
set_option linter.unusedSimpArgs false

/-! ### laws_toIntSS: function 9 -/
def laws_toIntSS.l0 : Nat → List (List Int) → List (List Int) → Int → Option ((List (List Int)))
 | 0, _, _, _ => none
 | k + 1, x0, x3, x4 => if x4 < (x0.length : Int) then (if 0 ≤ x4 then ((laws_toIntS.f k (rd_L1 x0 x4)).bind fun t158 => (if x4 < (x3.length : Int) then (laws_toIntSS.l0 k x0 (x3.set (x4 : Int).toNat t158) (wrap64 (x4 + 1))) else (none))) else (none)) else (some x3)
def laws_toIntSS.f (k : Nat) (l0 : List (List Int)) : Option ((List (List Int))) := if 0 ≤ (l0.length : Int) then (if ((l0.length : Int) : Int).toNat ≤ 11728124029610 then (laws_toIntSS.l0 k l0 (List.replicate ((l0.length : Int) : Int).toNat []) 0) else (none)) else (none)
set_option maxHeartbeats 8000000 in
set_option maxRecDepth 100000 in
theorem laws_toIntSS.calls (k : Nat) (A0 : Option Addr) (c0 : Nat) (l0 : List (List Int)) (r : List (List Int)) (w : World) (hr0 : Kd.C (Kd.slice 3 (Kd.int .i64)) w A0 l0.length l0) (hc0 : l0.length ≤ c0) (h : laws_toIntSS.f k l0 = some r) :
 Calls Try.prog 9 #[.slice A0 l0.length c0] w fun e w' => ∃ v0_ : Value, e = .returned (v0_) ∧ Kd.S (Kd.slice 3 (Kd.int .i64)) 24 w' w.heap.size (fun _ => True) v0_ r ∧ Below w.heap.size w w' := by
 have HR0 := Aside0.mk hr0
 have HC0 := Aside0.mk hc0
 clear hr0 hc0
 have HB := Aside0.mk (Below.refl w.heap.size w)
 have H : (if 0 ≤ (l0.length : Int) then (if ((l0.length : Int) : Int).toNat ≤ 11728124029610 then (laws_toIntSS.l0 k l0 (List.replicate ((l0.length : Int) : Int).toNat []) 0) else (none)) else (none)) = some r := h
 clear h
 by_cases c2 : 0 ≤ (l0.length : Int)
 · rw [if_pos c2] at H
   have c2b0 := eq_true c2
   have c2b1 : decide (0 ≤ (l0.length : Int)) = true := decide_eq_true c2
   clear c2
   by_cases c3 : ((l0.length : Int) : Int).toNat ≤ 11728124029610
   · rw [if_pos c3] at H
     have c3b0 := eq_true c3
     have c3b1 : decide (((l0.length : Int) : Int).toNat ≤ 11728124029610) = true := decide_eq_true c3
     clear c3
     obtain ⟨y154, hy154⟩ : ∃ y_ : List (List Int), y_ = (List.replicate ((l0.length : Int) : Int).toNat []) := ⟨_, rfl⟩
     replace H : (laws_toIntSS.l0 k l0 y154 0) = some r := by first | (rw [hy154]; with_reducible exact H) | (have H2_ := (Option.bind_some _ _).symm.trans H; rw [hy154]; with_reducible exact H2_) | (have H2_ := (Option.bind_some _ _).symm.trans H; with_reducible exact H2_) | with_reducible exact H | (rw [hy154]; exact H) | exact H
     have Ny154 := Aside0.mk hy154
     clear hy154
     have H' := Aside0.mk H
     clear H
     go_enter Try.func9, Try.ntmps9
     go_wp2_with (first | ((with_reducible refine gate_dst (N := 7) rfl ?_); refine Kd.S_make (Kd.slice 3 (Kd.int .i64)) _ 24 rfl (N := 7) rfl 22 _ _ rfl (l0.length : Int) rfl rfl Try.underlying22 (.slice none 0 0) 24 info24 rfl (by decide) (by omega) [] (ok := fun _ => True) (okp := fun _ => True) ⟨_, rfl, Kd.R_nil _ _ _ _ _⟩ (fun _ hk => hk) trivial (of_decide_eq_true (by first | (with_reducible assumption) | assumption)) (Nat.le_trans (Nat.mul_le_mul_right _ (of_decide_eq_true (by first | (with_reducible assumption) | assumption) : (l0.length : Int).toNat ≤ 11728124029610)) (by omega)) (Below.refl _ _) (Nat.le_refl _) ?_; intro v155 w4 ho5 hb hg_ hnew_; clear hg_ hnew_; (first | rw [← Ny154.out] at ho5 | (simp only [Int.reduceToNat] at ho5; rw [← Ny154.out] at ho5)); have n0_ := Aside0.mk (Kd.S_lower ho5 (below_size (by repeat (first | (with_reducible first | exact HB.out | apply below_alloc | apply pw_below_drewN | apply below_drew1) | exact HB.out)))); have n1_ := Aside0.mk (below_step (by repeat (first | (with_reducible first | exact HB.out | apply below_alloc | apply pw_below_drewN | apply below_drew1) | exact HB.out)) hb); clear HB; have HO156 := n0_; have HB := n1_; clear n0_ n1_; clear hb ho5))
     go_loopg [4] k (fun kq v4 w' => ∃ (x3_1 : List (List Int)) (x4_1 : Int), v4 = .int .i64 x4_1 ∧ Aside0 (laws_toIntSS.l0 kq l0 x3_1 x4_1 = some r) ∧ Aside0 (kq ≤ k) ∧ Aside0 (Kd.S (Kd.slice 3 (Kd.int .i64)) 24 w' w.heap.size (fun _ => True) v155 x3_1) ∧ Aside0 (Below w.heap.size w w'))
     case atStart => exact ⟨(y154), (0), (by first | rfl | (simp; done) | (simp [*]; done)), H', ⟨Nat.le_refl _⟩, ⟨by (with_reducible repeat (first | apply Kd.S_alloc | apply Kd.S_drewN | apply Kd.S_drew)); exact HO156.out⟩, ⟨by repeat (first | (with_reducible first | exact HB.out | apply below_alloc | apply pw_below_drewN | apply below_drew1) | exact HB.out)⟩⟩
     case round =>
      clear H'
      try clear c2
      try clear c2b0
      try clear c2b1
      try clear p2
      try clear c3
      try clear c3b0
      try clear c3b1
      obtain ⟨x3_1, x4_1, rfl, HA, HK1, HO_3, HB⟩ := hrel
      cases gk with
      | zero => exact absurd HA.out (by simp [laws_toIntSS.l0])
      | succ k1 =>
       have H := HA.out
       clear HA
       simp only [laws_toIntSS.l0] at H
       by_cases c6 : x4_1 < (l0.length : Int)
       · rw [if_pos c6] at H
         have c6b0 : decide (x4_1 < (l0.length : Int)) = true := decide_eq_true c6
         clear c6
         by_cases c7 : 0 ≤ x4_1
         · rw [if_pos c7] at H
           have c7b0 : decide (0 ≤ x4_1) = true := decide_eq_true c7
           clear c7
           replace H := Option.bind_eq_some_iff.mp H
           obtain ⟨t158, A80, H⟩ := H
           replace H : (if x4_1 < (x3_1.length : Int) then (laws_toIntSS.l0 k1 l0 (x3_1.set (x4_1 : Int).toNat t158) (wrap64 (x4_1 + 1))) else (none)) = some r := H
           have A8 := Aside0.mk A80
           clear A80
           by_cases c9 : x4_1 < (x3_1.length : Int)
           · rw [if_pos c9] at H
             have c9b0 : decide (x4_1 < (x3_1.length : Int)) = true := decide_eq_true c9
             clear c9
             obtain ⟨y161, hy161⟩ : ∃ y_ : List (List Int), y_ = (x3_1.set (x4_1 : Int).toNat t158) := ⟨_, rfl⟩
             replace H : (laws_toIntSS.l0 k1 l0 y161 (wrap64 (x4_1 + 1))) = some r := by first | (rw [hy161]; with_reducible exact H) | (have H2_ := (Option.bind_some _ _).symm.trans H; rw [hy161]; with_reducible exact H2_) | (have H2_ := (Option.bind_some _ _).symm.trans H; with_reducible exact H2_) | with_reducible exact H | (rw [hy161]; exact H) | exact H
             have Ny161 := Aside0.mk hy161
             clear hy161
             have H' := Aside0.mk H
             clear H
             have p157 : 0 ≤ (x4_1 : Int) := of_decide_eq_true (by first | (with_reducible assumption) | assumption)
             have q157 : x4_1 < (l0.length : Int) := of_decide_eq_true (by first | (with_reducible assumption) | assumption)
             obtain ⟨ad157, A157_0, c157_0, e157, hx157_0, hl157_0, hi157_0⟩ := at_L1 HR0.out x4_1 p157 q157
             cases e157
             replace hx157_0 := (HB.out.cell (World.block_lt_of_cell? w _ hx157_0)).trans hx157_0
             have HR157_0 := Aside0.mk hi157_0
             have HC157_0 := Aside0.mk hl157_0
             clear hi157_0 hl157_0
             replace p157 := eq_true p157
             replace q157 := eq_true q157
             go_wp2_with (first | ((with_reducible refine gate_callee (f := 38) rfl ?_); refine goesL_ (some 20) rfl rfl Try.func38 (by kernel_rfl) rfl #[.slice A157_0 (rd_L1 l0 x4_1).length c157_0] rfl (by (try simp only [List.map_toArray, List.map_cons, List.map_nil]); first | done | rfl | (simp only [List.length_drop, List.length_take]; rfl)) ?_; (with_reducible refine (laws_toIntS.calls k1 _ _ (rd_L1 l0 x4_1) t158 _ ?side1 ?side2 A8.out).mono ?_); (case side1 => repeat (first | exact (Kd.C_below HR157_0.out HB.out) | (with_reducible refine Kd.C_alloc ?_ _) | (with_reducible refine Kd.C_drewN ?_ _) | (with_reducible refine Kd.C_drew ?_))); (case side2 => exact HC157_0.out); rintro e w11 ⟨v159, rfl, ho0, hb⟩; refine ⟨_, rfl, ?_⟩; have n0_ := Aside0.mk (Kd.S_elder' (by (with_reducible repeat (first | apply Kd.S_alloc | apply Kd.S_drewN | apply Kd.S_drew)); exact HO_3.out) (Kd.R_base ho0) hb); have n1_ := Aside0.mk (Kd.R_lower ho0 (below_size (by repeat (first | (with_reducible first | exact HB.out | apply below_alloc | apply pw_below_drewN | apply below_drew1) | exact HB.out)))); have n2_ := Aside0.mk (below_step (by repeat (first | (with_reducible first | exact HB.out | apply below_alloc | apply pw_below_drewN | apply below_drew1) | exact HB.out)) hb); clear HO_3; clear HB; have HO_3 := n0_; have HO160 := n1_; have HB := n2_; clear n0_ n1_ n2_; (try clear hb); (try clear hb2); (try clear hk); (try clear hi); (try clear ho0); have p10 : 0 ≤ (x4_1 : Int) := of_decide_eq_true (by first | (with_reducible assumption) | assumption); have q10 : (x4_1 : Int) < ((x3_1.length : Int) : Int) := of_decide_eq_true (by first | (with_reducible assumption) | assumption); obtain ⟨go10, co10, eo10, gb10, gl10, cl10, HG10⟩ := Kd.S_form HO_3.out (by omega); (first | cases eo10 | (injection eo10 with ea_ en_ ec_; (first | subst ea_ | (injection ea_ with ea_; subst ea_)); subst ec_; clear en_)); have GB10 := Aside0.mk gb10; have GG10 := Aside0.mk HG10; clear gb10 gl10 HG10; obtain ⟨_, ce10, hcl10, hM10, hcc10, hfr10, _, _⟩ := Kd.S_elem HO_3.out [] (x4_1 : Int) p10 q10; obtain ⟨ve10_0, rfl, ge10_0⟩ := hM10; have hx10_0 := hcc10 0 _ rfl; have hf10_0 := hfr10 0; (try simp only [show ((Kd.slice 3 (Kd.int .i64))).sz = 1 from rfl, Nat.mul_one, Nat.add_zero] at hx10_0); (try simp only [show ((Kd.slice 3 (Kd.int .i64))).sz = 1 from rfl, Nat.mul_one, Nat.add_zero] at hf10_0); (try clear hcl10); (try clear hcc10); (try clear hfr10); (try clear hM10); replace p10 := eq_true p10; replace q10 := eq_true q10; have n_ := Aside0.mk (Kd.S_mono (ok' := (fun k_ => some k_ ≠ (v159 : Value).ownBlock)) HO_3.out (fun k_ hk => hk.2)); clear HO_3; have HO_3 := n_; clear n_; have HX12 := Aside0.mk (show Kd.S (Kd.slice 3 (Kd.int .i64)) 24 w11 w.heap.size (fun k_ => ((fun _ => True)) k_ ∧ ¬ ((fun k_ => some k_ = (v159 : Value).ownBlock)) k_) (.slice (some ⟨go10, 0, none⟩) x3_1.length co10) x3_1 from (by (with_reducible repeat (first | apply Kd.S_alloc | apply Kd.S_drewN | apply Kd.S_drew)); exact Kd.S_mono HO_3.out (fun k_ hk => ⟨trivial, fun e_ => hk e_⟩))); obtain ⟨oki12, ce12, hcl12, hM12, hcc12, hfr12, hoki12, hH12⟩ := Kd.S_elem HX12.out [] (x4_1 : Int) (of_decide_eq_true (by first | (with_reducible assumption) | assumption)) (by have h_ : (x4_1 : Int) < ((x3_1.length : Int) : Int) := of_decide_eq_true (by first | (with_reducible assumption) | assumption); first | exact h_ | (have e_ := (Kd.S_reads' HO_3.out).1; omega) | simpa using h_); obtain ⟨ve12_0, rfl, ge12_0⟩ := hM12; have HP12 := Kd.S_seg hH12 (of_decide_eq_true (by first | (with_reducible assumption) | assumption)) (by have h_ : (x4_1 : Int) < ((x3_1.length : Int) : Int) := of_decide_eq_true (by first | (with_reducible assumption) | assumption); first | exact h_ | (have e_ := (Kd.S_reads' HO_3.out).1; omega) | simpa using h_) (seg := [v159]) (j := 0) (show 1 ≤ 1 from by decide) (x' := t158) (Kd.M_row (Kd.R_mono (Kd.R_tight rfl (Kd.R_mono (ok' := fun k_ => ((fun _ => True)) k_ ∧ k_ ≠ go10) (Kd.R_apart' (HO160.out) (Kd.S_typed HO_3.out) (by decide)) (fun k_ hk => ⟨trivial, fun e_ => (hk.2) (by rw [e_]; rfl)⟩))) (fun _ h_ => Or.inr (h_)))) (fun _ hk => hk) (fun k_ hk_ => ((Kd.R_mono (ok' := fun k_ => ((fun _ => True)) k_ ∧ k_ ≠ go10) (Kd.R_apart' (HO160.out) (Kd.S_typed HO_3.out) (by decide)) (fun k_ hk => ⟨trivial, fun e_ => (hk.2) (by rw [e_]; rfl)⟩))).1 k_ hk_.symm); have hx12_0 := hcc12 0 _ rfl; (try simp only [show ((Kd.slice 3 (Kd.int .i64))).sz = 1 from rfl, Nat.mul_one, Nat.add_zero] at hx12_0); have hf12_0 := hfr12 0; (try simp only [show ((Kd.slice 3 (Kd.int .i64))).sz = 1 from rfl, Nat.mul_one, Nat.add_zero] at hf12_0); (try clear hcl12); (try clear hcc12); (try clear hfr12); (try clear hM12); (try clear hoki12); (try clear hH12); (try simp only [show ((Kd.slice 3 (Kd.int .i64))).sz = 1 from rfl, Nat.mul_one, Nat.add_zero] at HP12)) | ((with_reducible refine gate_store (t := 24) (p := 21) rfl ?_); refine store_event (t := 24) (p := 21) (v := ?vo_w13) (w1 := (w11.setCell ⟨go10, (x4_1 : Int).toNat, none⟩ (v159))) ?hg ?ho ?hn ?hr ?_; (case ho => rfl); (case hg => rfl); (case hn => rfl); (case hr => first | (go_simp; done) | (go_simp; rfl; done) | (obtain ⟨_, _, e_⟩ := Kd.R_slice HO160.out; subst e_; first | (go_simp; done) | (go_simp; rfl))); intro w13 hw; have hg : w11.grownBy w13 (some go10) := (by rw [hw]; exact HP12.2); have hp_ : Kd.S (Kd.slice 3 (Kd.int .i64)) 24 w13 w.heap.size (fun _ => True) (.slice (some ⟨go10, 0, none⟩) x3_1.length co10) y161 := (by rw [hw, Ny161.out]; exact HP12.1); clear HP12; have n0_ := Aside0.mk (hp_); have n1_ := Aside0.mk ((by rw [hw]; exact below_set (HB.out) GB10.out : Below w.heap.size w w13)); clear HO_3; clear HB; clear HO160; have HO_3 := n0_; have HB := n1_; clear n0_ n1_; clear hg hw hp_))
             go_roundg k1
             case measure => have := HK1.out; omega
             case rel => exact ⟨(y161), (wrap64 (x4_1 + 1)), (by first | rfl | (simp; done) | (simp [*]; done)), H', ⟨by have := HK1.out; omega⟩, ⟨by (with_reducible repeat (first | apply Kd.S_alloc | apply Kd.S_drewN | apply Kd.S_drew)); exact HO_3.out⟩, ⟨by repeat (first | (with_reducible first | exact HB.out | apply below_alloc | apply pw_below_drewN | apply below_drew1) | exact HB.out)⟩⟩
           · rw [if_neg c9] at H
             exact absurd H (by simp)
         · rw [if_neg c7] at H
           exact absurd H (by simp)
       · rw [if_neg c6] at H
         have c6b0 : decide (x4_1 < (l0.length : Int)) = false := decide_eq_false c6
         clear c6
         obtain rfl := Option.some.inj H
         go_wp2
         go_ret
         exact ⟨_, by first | rfl | (simp [errW_none, errW_some] <;> rfl) | (simp [*, errW_none, errW_some] <;> rfl), by (with_reducible repeat (first | apply Kd.S_alloc | apply Kd.S_drewN | apply Kd.S_drew)); exact HO_3.out, by repeat (first | (with_reducible first | exact HB.out | apply below_alloc | apply pw_below_drewN | apply below_drew1) | exact HB.out)⟩
   · rw [if_neg c3] at H
     exact absurd H (by simp)
 · rw [if_neg c2] at H
   exact absurd H (by simp)

end Go.Proofs.Ytkhpojcplejdjaa.A

-- made by a program of this repo (wip/pp.py) through the kit's printer
namespace Go.Proofs.Ytkhpojcplejdjaa.A
open Go.RowKit Go.Proofs.YtkhpojcplejdjaaW.PrintWords Go.Proofs.YtkhpojcplejdjaaW.PrintLast Go.Proofs.YtkhpojcplejdjaaW.PrintMore
attribute [local go_sem] max2_int min2_int max_two min_two max_three min_three max_four min_four
set_option linter.unusedVariables false
set_option linter.unusedSimpArgs false

/-! ### impl_total: function 51 -/
def impl_total.l0 : Nat → Int → List Int → Int → Int → Option (Int)
 | 0, _, _, _, _ => none
 | k + 1, x3, x6, x7, x8 => if x8 < x7 then (if 0 ≤ x8 then (if x8 < (x6.length : Int) then (impl_total.l0 k (wrap64 (x3 + (rd x6 x8))) x6 x7 (wrap64 (x8 + 1))) else (none)) else (none)) else (some x3)
def impl_total.f (k : Nat) (l0 : List Int) : Option (Int) := impl_total.l0 k 0 l0 (l0.length : Int) 0
set_option maxHeartbeats 8000000 in
set_option maxRecDepth 100000 in
theorem impl_total.calls (k : Nat) (A0 : Option Addr) (c0 : Nat) (l0 : List Int) (r : Int) (w : World) (hr0 : Kd.C (Kd.int .i64) w A0 l0.length l0) (hc0 : l0.length ≤ c0) (h : impl_total.f k l0 = some r) :
 Calls Try.prog 51 #[.slice A0 l0.length c0] w fun e w' => e = .returned (.int .i64 r) ∧ Drawn0 w w' := by
 have HR0 := Aside0.mk hr0
 have HC0 := Aside0.mk hc0
 clear hr0 hc0
 have H : (impl_total.l0 k 0 l0 (l0.length : Int) 0) = some r := h
 clear h
 have H' := Aside0.mk H
 clear H
 go_enter Try.func51, Try.ntmps51
 go_wp2
 go_loopg [3, 8] k (fun kq v3 v8 w' => ∃ (x3_1 : Int) (x8_1 : Int), v3 = .int .i64 x3_1 ∧ v8 = .int .i64 x8_1 ∧ Aside0 (impl_total.l0 kq x3_1 l0 (l0.length : Int) x8_1 = some r) ∧ Aside0 (kq ≤ k) ∧ Drawn0 w w')
 case atStart => exact ⟨(0), (0), (by first | rfl | (simp; done) | (simp [*]; done)), (by first | rfl | (simp; done) | (simp [*]; done)), H', ⟨Nat.le_refl _⟩, by repeat (first | exact Drawn0.refl _ | apply Drawn0.step)⟩
 case round =>
  clear H'
  obtain ⟨x3_1, x8_1, rfl, rfl, HA, HK1, ⟨m1, rfl⟩⟩ := hrel
  cases gk with
  | zero => exact absurd HA.out (by simp [impl_total.l0])
  | succ k1 =>
   have H := HA.out
   clear HA
   simp only [impl_total.l0] at H
   by_cases c2 : x8_1 < (l0.length : Int)
   · rw [if_pos c2] at H
     have c2b0 : decide (x8_1 < (l0.length : Int)) = true := decide_eq_true c2
     clear c2
     by_cases c3 : 0 ≤ x8_1
     · rw [if_pos c3] at H
       have c3b0 : decide (0 ≤ x8_1) = true := decide_eq_true c3
       clear c3
       by_cases c4 : x8_1 < (l0.length : Int)
       · rw [if_pos c4] at H
         have c4b0 : decide (x8_1 < (l0.length : Int)) = true := decide_eq_true c4
         clear c4
         have H' := Aside0.mk H
         clear H
         have p162 : 0 ≤ (x8_1 : Int) := of_decide_eq_true (by first | (with_reducible assumption) | assumption)
         have q162 : x8_1 < (l0.length : Int) := of_decide_eq_true (by first | (with_reducible assumption) | assumption)
         obtain ⟨ad162, e162, hx162_0⟩ := Kd.at_int HR0.out x8_1 p162 q162
         cases e162
         replace p162 := eq_true p162
         replace q162 := eq_true q162
         go_wp2
         go_roundg k1
         case measure => have := HK1.out; omega
         case rel => exact ⟨(wrap64 (x3_1 + (rd l0 x8_1))), (wrap64 (x8_1 + 1)), (by first | rfl | (simp; done) | (simp [*]; done)), (by first | rfl | (simp; done) | (simp [*]; done)), H', ⟨by have := HK1.out; omega⟩, by repeat (first | exact Drawn0.refl _ | apply Drawn0.step)⟩
       · rw [if_neg c4] at H
         exact absurd H (by simp)
     · rw [if_neg c3] at H
       exact absurd H (by simp)
   · rw [if_neg c2] at H
     have c2b0 : decide (x8_1 < (l0.length : Int)) = false := decide_eq_false c2
     clear c2
     obtain rfl := Option.some.inj H
     go_wp2
     go_ret
     exact ⟨by first | rfl | (simp; done) | (simp [*]; done), by repeat (first | exact Drawn0.refl _ | apply Drawn0.step)⟩

end Go.Proofs.Ytkhpojcplejdjaa.A

-- made by a program of this repo (wip/pp.py) through the kit's printer
namespace Go.Proofs.Ytkhpojcplejdjaa.A
open Go.RowKit Go.Proofs.YtkhpojcplejdjaaW.PrintWords Go.Proofs.YtkhpojcplejdjaaW.PrintLast Go.Proofs.YtkhpojcplejdjaaW.PrintMore
attribute [local go_sem] max2_int min2_int max_two min_two max_three min_three max_four min_four
set_option linter.unusedVariables false
set_option linter.unusedSimpArgs false

/-! ### impl_equalSum: function 48 -/
mutual
def impl_equalSum.l0 : Nat → List (List Int) → Int → List (List Int) → Int → Int → Option (Int × Bool)
 | 0, _, _, _, _, _ => none
 | k + 1, x0, x4, x14, x15, x16 => if x16 < x15 then (if 0 ≤ x16 then (if x16 < (x14.length : Int) then (impl_equalSum.l1 k x0 x4 x16 (rd_L1 x14 x16) 0 x14 x15 x16 x0 (x0.length : Int) 0) else (none)) else (none)) else (some (x4, true))
def impl_equalSum.l1 : Nat → List (List Int) → Int → Int → List Int → Int → List (List Int) → Int → Int → List (List Int) → Int → Int → Option (Int × Bool)
 | 0, _, _, _, _, _, _, _, _, _, _, _ => none
 | k + 1, x0, x4, x5, x6, x7, x14, x15, x16, x21, x22, x23 => if x23 < x22 then (if 0 ≤ x23 then (if x23 < (x21.length : Int) then (if 0 ≤ x5 then (if x5 < ((rd_L1 x21 x23).length : Int) then (impl_equalSum.l1 k x0 x4 x5 x6 (wrap64 (x7 + (rd (rd_L1 x21 x23) x5))) x14 x15 x16 x21 x22 (wrap64 (x23 + 1))) else (none)) else (none)) else (none)) else (none)) else ((impl_total.f k x6).bind fun t168 => (if t168 = x4 then (if x7 = x4 then (impl_equalSum.l0 k x0 x4 x14 x15 (wrap64 (x16 + 1))) else (some (0, false))) else (some (0, false))))
end
def impl_equalSum.f (k : Nat) (l0 : List (List Int)) : Option (Int × Bool) := if 0 < (l0.length : Int) then ((impl_total.f k (rd_L1 l0 0)).bind fun t164 => (impl_equalSum.l0 k l0 t164 l0 (l0.length : Int) 0)) else (none)
set_option maxHeartbeats 8000000 in
set_option maxRecDepth 100000 in
theorem impl_equalSum.calls (k : Nat) (A0 : Option Addr) (c0 : Nat) (l0 : List (List Int)) (r1 : Int) (r2 : Bool) (w : World) (hr0 : Kd.C (Kd.slice 3 (Kd.int .i64)) w A0 l0.length l0) (hc0 : l0.length ≤ c0) (h : impl_equalSum.f k l0 = some (r1, r2)) :
 Calls Try.prog 48 #[.slice A0 l0.length c0] w fun e w' => e = .returned (.tuple #[.int .i64 r1, .bool r2]) ∧ Drawn0 w w' := by
 have HR0 := Aside0.mk hr0
 have HC0 := Aside0.mk hc0
 clear hr0 hc0
 have H : (if 0 < (l0.length : Int) then ((impl_total.f k (rd_L1 l0 0)).bind fun t164 => (impl_equalSum.l0 k l0 t164 l0 (l0.length : Int) 0)) else (none)) = some (r1, r2) := h
 clear h
 by_cases c2 : 0 < (l0.length : Int)
 · rw [if_pos c2] at H
   have c2b0 : decide (0 < (l0.length : Int)) = true := decide_eq_true c2
   have c2b1 : decide (0 < l0.length) = true := decide_eq_true (by omega)
   clear c2
   replace H := Option.bind_eq_some_iff.mp H
   obtain ⟨t164, A30, H⟩ := H
   replace H : (impl_equalSum.l0 k l0 t164 l0 (l0.length : Int) 0) = some (r1, r2) := H
   have A3 := Aside0.mk A30
   clear A30
   have H' := Aside0.mk H
   clear H
   have p163 : 0 ≤ (0 : Int) := (by omega)
   have q163 : 0 < (l0.length : Int) := of_decide_eq_true (by first | (with_reducible assumption) | assumption)
   obtain ⟨ad163, A163_0, c163_0, e163, hx163_0, hl163_0, hi163_0⟩ := at_L1 HR0.out 0 p163 q163
   cases e163
   have qi163 : (0 < l0.length) = True := eq_true (by omega)
   (try rw [show ((0 : Int)).toNat = 0 from rfl] at hx163_0)
   (try rw [Addr.add_zero'] at hx163_0)
   have HR163_0 := Aside0.mk hi163_0
   have HC163_0 := Aside0.mk hl163_0
   clear hi163_0 hl163_0
   replace p163 := eq_true p163
   replace q163 := eq_true q163
   go_enter Try.func48, Try.ntmps48
   go_wp2_with (first | ((with_reducible refine gate_callee (f := 51) rfl ?_); refine goesL_ (some 13) rfl rfl Try.func51 (by kernel_rfl) rfl #[.slice A163_0 (rd_L1 l0 0).length c163_0] rfl (by (try simp only [List.map_toArray, List.map_cons, List.map_nil]); first | done | rfl | (simp only [List.length_drop, List.length_take]; rfl)) ?_; (with_reducible refine (impl_total.calls k _ _ (rd_L1 l0 0) t164 _ ?side1 ?side2 A3.out).mono ?_); (case side1 => repeat (first | exact HR163_0.out | (with_reducible refine Kd.C_alloc ?_ _) | (with_reducible refine Kd.C_drewN ?_ _) | (with_reducible refine Kd.C_drew ?_))); (case side2 => exact HC163_0.out); rintro e w' ⟨rfl, ⟨nd, rfl⟩⟩; refine ⟨_, rfl, ?_⟩))
   go_loopg [16] k (fun kq v16 w' => ∃ (x16_1 : Int), v16 = .int .i64 x16_1 ∧ Aside0 (impl_equalSum.l0 kq l0 t164 l0 (l0.length : Int) x16_1 = some (r1, r2)) ∧ Aside0 (kq ≤ k) ∧ Drawn0 w w')
   case atStart => exact ⟨(0), (by first | rfl | (simp; done) | (simp [*]; done)), H', ⟨Nat.le_refl _⟩, by repeat (first | exact Drawn0.refl _ | apply Drawn0.step)⟩
   case round =>
    clear H'
    try clear c1
    try clear p1
    try clear q1
    try clear hx1
    try clear qi1
    try clear c2
    try clear c2b0
    try clear c2b1
    try clear p2
    try clear hx163_0
    try clear p163
    try clear q163
    obtain ⟨x16_1, rfl, HA, HK1, ⟨m1, rfl⟩⟩ := hrel
    cases gk with
    | zero => exact absurd HA.out (by simp [impl_equalSum.l0])
    | succ k1 =>
     have H := HA.out
     clear HA
     simp only [impl_equalSum.l0] at H
     by_cases c4 : x16_1 < (l0.length : Int)
     · rw [if_pos c4] at H
       have c4b0 : decide (x16_1 < (l0.length : Int)) = true := decide_eq_true c4
       clear c4
       by_cases c5 : 0 ≤ x16_1
       · rw [if_pos c5] at H
         have c5b0 : decide (0 ≤ x16_1) = true := decide_eq_true c5
         clear c5
         by_cases c6 : x16_1 < (l0.length : Int)
         · rw [if_pos c6] at H
           have c6b0 : decide (x16_1 < (l0.length : Int)) = true := decide_eq_true c6
           clear c6
           have H' := Aside0.mk H
           clear H
           have p165 : 0 ≤ (x16_1 : Int) := of_decide_eq_true (by first | (with_reducible assumption) | assumption)
           have q165 : x16_1 < (l0.length : Int) := of_decide_eq_true (by first | (with_reducible assumption) | assumption)
           obtain ⟨ad165, A165_0, c165_0, e165, hx165_0, hl165_0, hi165_0⟩ := at_L1 HR0.out x16_1 p165 q165
           obtain rfl : ad163 = ad165 := (by injection e165)
           have HR165_0 := Aside0.mk hi165_0
           have HC165_0 := Aside0.mk hl165_0
           clear hi165_0 hl165_0
           replace p165 := eq_true p165
           replace q165 := eq_true q165
           go_wp2
           go_loopg [7, 23] k1 (fun kq v7 v23 w' => ∃ (x7_2 : Int) (x23_2 : Int), v7 = .int .i64 x7_2 ∧ v23 = .int .i64 x23_2 ∧ Aside0 (impl_equalSum.l1 kq l0 t164 x16_1 (rd_L1 l0 x16_1) x7_2 l0 (l0.length : Int) x16_1 l0 (l0.length : Int) x23_2 = some (r1, r2)) ∧ Aside0 (kq ≤ k1) ∧ Drawn0 w w')
           case atStart => exact ⟨(0), (0), (by first | rfl | (simp; done) | (simp [*]; done)), (by first | rfl | (simp; done) | (simp [*]; done)), H', ⟨Nat.le_refl _⟩, by repeat (first | exact Drawn0.refl _ | apply Drawn0.step)⟩
           case round =>
            clear H'
            try clear c1
            try clear p1
            try clear q1
            try clear hx1
            try clear qi1
            try clear c2
            try clear c2b0
            try clear c2b1
            try clear p2
            try clear c4
            try clear c4b0
            try clear c5
            try clear c5b0
            try clear c6
            try clear c6b0
            try clear hx163_0
            try clear hx165_0
            try clear p1
            try clear p163
            try clear p165
            try clear p2
            try clear q1
            try clear q163
            try clear q165
            obtain ⟨x7_2, x23_2, rfl, rfl, HA, HK2, ⟨m2, rfl⟩⟩ := hrel
            cases gk with
            | zero => exact absurd HA.out (by simp [impl_equalSum.l1])
            | succ k2 =>
             have H := HA.out
             clear HA
             simp only [impl_equalSum.l1] at H
             by_cases c7 : x23_2 < (l0.length : Int)
             · rw [if_pos c7] at H
               have c7b0 : decide (x23_2 < (l0.length : Int)) = true := decide_eq_true c7
               clear c7
               by_cases c8 : 0 ≤ x23_2
               · rw [if_pos c8] at H
                 have c8b0 : decide (0 ≤ x23_2) = true := decide_eq_true c8
                 clear c8
                 by_cases c9 : x23_2 < (l0.length : Int)
                 · rw [if_pos c9] at H
                   have c9b0 : decide (x23_2 < (l0.length : Int)) = true := decide_eq_true c9
                   clear c9
                   by_cases c10 : 0 ≤ x16_1
                   · rw [if_pos c10] at H
                     have c10b0 : decide (0 ≤ x16_1) = true := decide_eq_true c10
                     clear c10
                     by_cases c11 : x16_1 < ((rd_L1 l0 x23_2).length : Int)
                     · rw [if_pos c11] at H
                       have c11b0 : decide (x16_1 < ((rd_L1 l0 x23_2).length : Int)) = true := decide_eq_true c11
                       clear c11
                       have H' := Aside0.mk H
                       clear H
                       have p166 : 0 ≤ (x23_2 : Int) := of_decide_eq_true (by first | (with_reducible assumption) | assumption)
                       have q166 : x23_2 < (l0.length : Int) := of_decide_eq_true (by first | (with_reducible assumption) | assumption)
                       obtain ⟨ad166, A166_0, c166_0, e166, hx166_0, hl166_0, hi166_0⟩ := at_L1 HR0.out x23_2 p166 q166
                       obtain rfl : ad163 = ad166 := (by injection e166)
                       have HR166_0 := Aside0.mk hi166_0
                       have HC166_0 := Aside0.mk hl166_0
                       clear hi166_0 hl166_0
                       replace p166 := eq_true p166
                       replace q166 := eq_true q166
                       have p167 : 0 ≤ (x16_1 : Int) := of_decide_eq_true (by first | (with_reducible assumption) | assumption)
                       have q167 : x16_1 < ((rd_L1 l0 x23_2).length : Int) := of_decide_eq_true (by first | (with_reducible assumption) | assumption)
                       obtain ⟨ad167, e167, hx167_0⟩ := Kd.at_int HR166_0.out x16_1 p167 q167
                       cases e167
                       replace p167 := eq_true p167
                       replace q167 := eq_true q167
                       go_wp2
                       go_roundg k2
                       case measure => have := HK1.out; have := HK2.out; omega
                       case rel => exact ⟨(wrap64 (x7_2 + (rd (rd_L1 l0 x23_2) x16_1))), (wrap64 (x23_2 + 1)), (by first | rfl | (simp; done) | (simp [*]; done)), (by first | rfl | (simp; done) | (simp [*]; done)), H', ⟨by have := HK1.out; have := HK2.out; omega⟩, by repeat (first | exact Drawn0.refl _ | apply Drawn0.step)⟩
                     · rw [if_neg c11] at H
                       exact absurd H (by simp)
                   · rw [if_neg c10] at H
                     exact absurd H (by simp)
                 · rw [if_neg c9] at H
                   exact absurd H (by simp)
               · rw [if_neg c8] at H
                 exact absurd H (by simp)
             · rw [if_neg c7] at H
               have c7b0 : decide (x23_2 < (l0.length : Int)) = false := decide_eq_false c7
               clear c7
               replace H := Option.bind_eq_some_iff.mp H
               obtain ⟨t168, A120, H⟩ := H
               replace H : (if t168 = t164 then (if x7_2 = t164 then (impl_equalSum.l0 k2 l0 t164 l0 (l0.length : Int) (wrap64 (x16_1 + 1))) else (some (0, false))) else (some (0, false))) = some (r1, r2) := H
               have A12 := Aside0.mk A120
               clear A120
               by_cases c13 : t168 = t164
               · rw [if_pos c13] at H
                 have c13b0 : (t168 == t164) = true := beq_iff_eq.mpr c13
                 have c13b1 : (t168 != t164) = false := bne_eq_false_iff_eq.mpr c13
                 clear c13
                 by_cases c14 : x7_2 = t164
                 · rw [if_pos c14] at H
                   have c14b0 : (x7_2 == t164) = true := beq_iff_eq.mpr c14
                   have c14b1 : (x7_2 != t164) = false := bne_eq_false_iff_eq.mpr c14
                   clear c14
                   have H' := Aside0.mk H
                   clear H
                   go_wp2_with (first | ((with_reducible refine gate_callee (f := 51) rfl ?_); refine goesL_ (some 35) rfl rfl Try.func51 (by kernel_rfl) rfl #[.slice A165_0 (rd_L1 l0 x16_1).length c165_0] rfl (by (try simp only [List.map_toArray, List.map_cons, List.map_nil]); first | done | rfl | (simp only [List.length_drop, List.length_take]; rfl)) ?_; (with_reducible refine (impl_total.calls k2 _ _ (rd_L1 l0 x16_1) t168 _ ?side1 ?side2 A12.out).mono ?_); (case side1 => repeat (first | exact HR165_0.out | (with_reducible refine Kd.C_alloc ?_ _) | (with_reducible refine Kd.C_drewN ?_ _) | (with_reducible refine Kd.C_drew ?_))); (case side2 => exact HC165_0.out); rintro e w' ⟨rfl, ⟨nd, rfl⟩⟩; refine ⟨_, rfl, ?_⟩))
                   go_roundg k2
                   case measure => have := HK1.out; have := HK2.out; omega
                   case rel => exact ⟨(wrap64 (x16_1 + 1)), (by first | rfl | (simp; done) | (simp [*]; done)), H', ⟨by have := HK1.out; have := HK2.out; omega⟩, by repeat (first | exact Drawn0.refl _ | apply Drawn0.step)⟩
                 · rw [if_neg c14] at H
                   have c14b0 : (x7_2 == t164) = false := beq_eq_false_iff_ne.mpr c14
                   have c14b1 : (x7_2 != t164) = true := bne_iff_ne.mpr c14
                   simp only [Option.some.injEq, Prod.mk.injEq] at H
                   obtain ⟨rfl, rfl⟩ := H
                   go_wp2_with (first | ((with_reducible refine gate_callee (f := 51) rfl ?_); refine goesL_ (some 35) rfl rfl Try.func51 (by kernel_rfl) rfl #[.slice A165_0 (rd_L1 l0 x16_1).length c165_0] rfl (by (try simp only [List.map_toArray, List.map_cons, List.map_nil]); first | done | rfl | (simp only [List.length_drop, List.length_take]; rfl)) ?_; (with_reducible refine (impl_total.calls k2 _ _ (rd_L1 l0 x16_1) t168 _ ?side1 ?side2 A12.out).mono ?_); (case side1 => repeat (first | exact HR165_0.out | (with_reducible refine Kd.C_alloc ?_ _) | (with_reducible refine Kd.C_drewN ?_ _) | (with_reducible refine Kd.C_drew ?_))); (case side2 => exact HC165_0.out); rintro e w' ⟨rfl, ⟨nd, rfl⟩⟩; refine ⟨_, rfl, ?_⟩))
                   go_ret2
                   exact ⟨by first | rfl | (simp; done) | (simp [*]; done), by repeat (first | exact Drawn0.refl _ | apply Drawn0.step)⟩
               · rw [if_neg c13] at H
                 have c13b0 : (t168 == t164) = false := beq_eq_false_iff_ne.mpr c13
                 have c13b1 : (t168 != t164) = true := bne_iff_ne.mpr c13
                 simp only [Option.some.injEq, Prod.mk.injEq] at H
                 obtain ⟨rfl, rfl⟩ := H
                 go_wp2_with (first | ((with_reducible refine gate_callee (f := 51) rfl ?_); refine goesL_ (some 35) rfl rfl Try.func51 (by kernel_rfl) rfl #[.slice A165_0 (rd_L1 l0 x16_1).length c165_0] rfl (by (try simp only [List.map_toArray, List.map_cons, List.map_nil]); first | done | rfl | (simp only [List.length_drop, List.length_take]; rfl)) ?_; (with_reducible refine (impl_total.calls k2 _ _ (rd_L1 l0 x16_1) t168 _ ?side1 ?side2 A12.out).mono ?_); (case side1 => repeat (first | exact HR165_0.out | (with_reducible refine Kd.C_alloc ?_ _) | (with_reducible refine Kd.C_drewN ?_ _) | (with_reducible refine Kd.C_drew ?_))); (case side2 => exact HC165_0.out); rintro e w' ⟨rfl, ⟨nd, rfl⟩⟩; refine ⟨_, rfl, ?_⟩))
                 go_ret2
                 exact ⟨by first | rfl | (simp; done) | (simp [*]; done), by repeat (first | exact Drawn0.refl _ | apply Drawn0.step)⟩
         · rw [if_neg c6] at H
           exact absurd H (by simp)
       · rw [if_neg c5] at H
         exact absurd H (by simp)
     · rw [if_neg c4] at H
       have c4b0 : decide (x16_1 < (l0.length : Int)) = false := decide_eq_false c4
       clear c4
       simp only [Option.some.injEq, Prod.mk.injEq] at H
       obtain ⟨rfl, rfl⟩ := H
       go_wp2
       go_ret2
       exact ⟨by first | rfl | (simp; done) | (simp [*]; done), by repeat (first | exact Drawn0.refl _ | apply Drawn0.step)⟩
 · rw [if_neg c2] at H
   exact absurd H (by simp)

end Go.Proofs.Ytkhpojcplejdjaa.A

-- made by a program of this repo (wip/pp.py) through the kit's printer
namespace Go.Proofs.Ytkhpojcplejdjaa.A
open Go.RowKit Go.Proofs.YtkhpojcplejdjaaW.PrintWords Go.Proofs.YtkhpojcplejdjaaW.PrintLast Go.Proofs.YtkhpojcplejdjaaW.PrintMore
attribute [local go_sem] max2_int min2_int max_two min_two max_three min_three max_four min_four
set_option linter.unusedVariables false
set_option linter.unusedSimpArgs false

/-! ### impl_within: function 62 -/
def impl_within.f (a0 : Int) (a1 : Int) (a2 : Int) : Option (Bool) := if a0 ≥ a1 then (some (decide (a0 ≤ a2))) else (some false)
set_option maxHeartbeats 8000000 in
set_option maxRecDepth 100000 in
theorem impl_within.calls (a0 : Int) (a1 : Int) (a2 : Int) (r : Bool) (w : World) (h : impl_within.f a0 a1 a2 = some r) :
 Calls Try.prog 62 #[.int .i64 a0, .int .i64 a1, .int .i64 a2] w fun e w' => e = .returned (.bool r) ∧ Drawn0 w w' := by
 have H : (if a0 ≥ a1 then (some (decide (a0 ≤ a2))) else (some false)) = some r := h
 clear h
 by_cases c4 : a0 ≥ a1
 · rw [if_pos c4] at H
   have c4b0 : decide (a1 ≤ a0) = true := decide_eq_true c4
   clear c4
   obtain rfl := Option.some.inj H
   go_enter Try.func62, Try.ntmps62
   go_wp2
   go_ret
   exact ⟨by first | rfl | (simp; done) | (simp [*]; done), by repeat (first | exact Drawn0.refl _ | apply Drawn0.step)⟩
 · rw [if_neg c4] at H
   have c4b0 : decide (a1 ≤ a0) = false := decide_eq_false c4
   clear c4
   obtain rfl := Option.some.inj H
   go_enter Try.func62, Try.ntmps62
   go_wp2
   go_ret
   exact ⟨by first | rfl | (simp; done) | (simp [*]; done), by repeat (first | exact Drawn0.refl _ | apply Drawn0.step)⟩

end Go.Proofs.Ytkhpojcplejdjaa.A

-- made by a program of this repo (wip/pp.py) through the kit's printer
namespace Go.Proofs.Ytkhpojcplejdjaa.A
open Go.RowKit Go.Proofs.YtkhpojcplejdjaaW.PrintWords Go.Proofs.YtkhpojcplejdjaaW.PrintLast Go.Proofs.YtkhpojcplejdjaaW.PrintMore
attribute [local go_sem] max2_int min2_int max_two min_two max_three min_three max_four min_four
set_option linter.unusedVariables false
set_option linter.unusedSimpArgs false

/-! ### impl_allWithin: function 69 -/
def impl_allWithin.l0 : Nat → Int → Int → List Int → Int → Int → Option (Bool)
 | 0, _, _, _, _, _ => none
 | k + 1, x1, x2, x9, x10, x11 => if x11 < x10 then (if 0 ≤ x11 then (if x11 < (x9.length : Int) then ((impl_within.f (rd x9 x11) x1 x2).bind fun t540 => (if t540 = true then (impl_allWithin.l0 k x1 x2 x9 x10 (wrap64 (x11 + 1))) else (some false))) else (none)) else (none)) else (some true)
def impl_allWithin.f (k : Nat) (l0 : List Int) (a1 : Int) (a2 : Int) : Option (Bool) := impl_allWithin.l0 k a1 a2 l0 (l0.length : Int) 0
set_option maxHeartbeats 8000000 in
set_option maxRecDepth 100000 in
theorem impl_allWithin.calls (k : Nat) (A0 : Option Addr) (c0 : Nat) (l0 : List Int) (a1 : Int) (a2 : Int) (r : Bool) (w : World) (hr0 : Kd.C (Kd.int .i64) w A0 l0.length l0) (hc0 : l0.length ≤ c0) (h : impl_allWithin.f k l0 a1 a2 = some r) :
 Calls Try.prog 69 #[.slice A0 l0.length c0, .int .i64 a1, .int .i64 a2] w fun e w' => e = .returned (.bool r) ∧ Drawn0 w w' := by
 have HR0 := Aside0.mk hr0
 have HC0 := Aside0.mk hc0
 clear hr0 hc0
 have H : (impl_allWithin.l0 k a1 a2 l0 (l0.length : Int) 0) = some r := h
 clear h
 have H' := Aside0.mk H
 clear H
 go_enter Try.func69, Try.ntmps69
 go_wp2
 go_loopg [11] k (fun kq v11 w' => ∃ (x11_1 : Int), v11 = .int .i64 x11_1 ∧ Aside0 (impl_allWithin.l0 kq a1 a2 l0 (l0.length : Int) x11_1 = some r) ∧ Aside0 (kq ≤ k) ∧ Drawn0 w w')
 case atStart => exact ⟨(0), (by first | rfl | (simp; done) | (simp [*]; done)), H', ⟨Nat.le_refl _⟩, by repeat (first | exact Drawn0.refl _ | apply Drawn0.step)⟩
 case round =>
  clear H'
  try clear p2
  obtain ⟨x11_1, rfl, HA, HK1, ⟨m1, rfl⟩⟩ := hrel
  cases gk with
  | zero => exact absurd HA.out (by simp [impl_allWithin.l0])
  | succ k1 =>
   have H := HA.out
   clear HA
   simp only [impl_allWithin.l0] at H
   by_cases c4 : x11_1 < (l0.length : Int)
   · rw [if_pos c4] at H
     have c4b0 : decide (x11_1 < (l0.length : Int)) = true := decide_eq_true c4
     clear c4
     by_cases c5 : 0 ≤ x11_1
     · rw [if_pos c5] at H
       have c5b0 : decide (0 ≤ x11_1) = true := decide_eq_true c5
       clear c5
       by_cases c6 : x11_1 < (l0.length : Int)
       · rw [if_pos c6] at H
         have c6b0 : decide (x11_1 < (l0.length : Int)) = true := decide_eq_true c6
         clear c6
         replace H := Option.bind_eq_some_iff.mp H
         obtain ⟨t540, A70, H⟩ := H
         replace H : (if t540 = true then (impl_allWithin.l0 k1 a1 a2 l0 (l0.length : Int) (wrap64 (x11_1 + 1))) else (some false)) = some r := H
         have A7 := Aside0.mk A70
         clear A70
         by_cases c8 : t540 = true
         · subst c8
           have H1 : (impl_allWithin.l0 k1 a1 a2 l0 (l0.length : Int) (wrap64 (x11_1 + 1))) = some r := by rw [if_pos rfl] at H; exact H
           clear H
           have H := H1
           clear H1
           have H' := Aside0.mk H
           clear H
           have p539 : 0 ≤ (x11_1 : Int) := of_decide_eq_true (by first | (with_reducible assumption) | assumption)
           have q539 : x11_1 < (l0.length : Int) := of_decide_eq_true (by first | (with_reducible assumption) | assumption)
           obtain ⟨ad539, e539, hx539_0⟩ := Kd.at_int HR0.out x11_1 p539 q539
           cases e539
           replace p539 := eq_true p539
           replace q539 := eq_true q539
           go_wp2_with (first | ((with_reducible refine gate_callee (f := 62) rfl ?_); refine goesL_ (some 18) rfl rfl Try.func62 (by kernel_rfl) rfl #[.int .i64 (rd l0 x11_1), .int .i64 a1, .int .i64 a2] rfl (by (try simp only [List.map_toArray, List.map_cons, List.map_nil]); first | done | rfl | (simp only [List.length_drop, List.length_take]; rfl)) ?_; (with_reducible refine (impl_within.calls (rd l0 x11_1) a1 a2 true _ A7.out).mono ?_); rintro e w' ⟨rfl, ⟨nd, rfl⟩⟩; refine ⟨_, rfl, ?_⟩))
           go_roundg k1
           case measure => have := HK1.out; omega
           case rel => exact ⟨(wrap64 (x11_1 + 1)), (by first | rfl | (simp; done) | (simp [*]; done)), H', ⟨by have := HK1.out; omega⟩, by repeat (first | exact Drawn0.refl _ | apply Drawn0.step)⟩
         · replace c8 := Bool.eq_false_iff.mpr c8
           subst c8
           have H1 : (some false) = some r := by rw [if_neg (show ¬ (false = true) by decide)] at H; exact H
           clear H
           have H := H1
           clear H1
           obtain rfl := Option.some.inj H
           have p539 : 0 ≤ (x11_1 : Int) := of_decide_eq_true (by first | (with_reducible assumption) | assumption)
           have q539 : x11_1 < (l0.length : Int) := of_decide_eq_true (by first | (with_reducible assumption) | assumption)
           obtain ⟨ad539, e539, hx539_0⟩ := Kd.at_int HR0.out x11_1 p539 q539
           cases e539
           replace p539 := eq_true p539
           replace q539 := eq_true q539
           go_wp2_with (first | ((with_reducible refine gate_callee (f := 62) rfl ?_); refine goesL_ (some 18) rfl rfl Try.func62 (by kernel_rfl) rfl #[.int .i64 (rd l0 x11_1), .int .i64 a1, .int .i64 a2] rfl (by (try simp only [List.map_toArray, List.map_cons, List.map_nil]); first | done | rfl | (simp only [List.length_drop, List.length_take]; rfl)) ?_; (with_reducible refine (impl_within.calls (rd l0 x11_1) a1 a2 false _ A7.out).mono ?_); rintro e w' ⟨rfl, ⟨nd, rfl⟩⟩; refine ⟨_, rfl, ?_⟩))
           go_ret
           exact ⟨by first | rfl | (simp; done) | (simp [*]; done), by repeat (first | exact Drawn0.refl _ | apply Drawn0.step)⟩
       · rw [if_neg c6] at H
         exact absurd H (by simp)
     · rw [if_neg c5] at H
       exact absurd H (by simp)
   · rw [if_neg c4] at H
     have c4b0 : decide (x11_1 < (l0.length : Int)) = false := decide_eq_false c4
     clear c4
     obtain rfl := Option.some.inj H
     go_wp2
     go_ret
     exact ⟨by first | rfl | (simp; done) | (simp [*]; done), by repeat (first | exact Drawn0.refl _ | apply Drawn0.step)⟩

end Go.Proofs.Ytkhpojcplejdjaa.A

-- made by a program of this repo (wip/pp.py) through the kit's printer
namespace Go.Proofs.Ytkhpojcplejdjaa.A
open Go.RowKit Go.Proofs.YtkhpojcplejdjaaW.PrintWords Go.Proofs.YtkhpojcplejdjaaW.PrintLast Go.Proofs.YtkhpojcplejdjaaW.PrintMore
attribute [local go_sem] max2_int min2_int max_two min_two max_three min_three max_four min_four
set_option linter.unusedVariables false
set_option linter.unusedSimpArgs false

/-! ### spec_l1In: function 64 -/
def spec_l1In.f (a0 : Int) (a1 : Int) (a2 : Int) : Option (Bool) := if a0 ≥ a1 then (some (decide (a0 ≤ a2))) else (some false)
set_option maxHeartbeats 8000000 in
set_option maxRecDepth 100000 in
theorem spec_l1In.calls (a0 : Int) (a1 : Int) (a2 : Int) (r : Bool) (w : World) (h : spec_l1In.f a0 a1 a2 = some r) :
 Calls Try.prog 64 #[.int .i64 a0, .int .i64 a1, .int .i64 a2] w fun e w' => e = .returned (.bool r) ∧ Drawn0 w w' := by
 have H : (if a0 ≥ a1 then (some (decide (a0 ≤ a2))) else (some false)) = some r := h
 clear h
 by_cases c4 : a0 ≥ a1
 · rw [if_pos c4] at H
   have c4b0 : decide (a1 ≤ a0) = true := decide_eq_true c4
   clear c4
   obtain rfl := Option.some.inj H
   go_enter Try.func64, Try.ntmps64
   go_wp2
   go_ret
   exact ⟨by first | rfl | (simp; done) | (simp [*]; done), by repeat (first | exact Drawn0.refl _ | apply Drawn0.step)⟩
 · rw [if_neg c4] at H
   have c4b0 : decide (a1 ≤ a0) = false := decide_eq_false c4
   clear c4
   obtain rfl := Option.some.inj H
   go_enter Try.func64, Try.ntmps64
   go_wp2
   go_ret
   exact ⟨by first | rfl | (simp; done) | (simp [*]; done), by repeat (first | exact Drawn0.refl _ | apply Drawn0.step)⟩

end Go.Proofs.Ytkhpojcplejdjaa.A

-- made by a program of this repo (wip/pp.py) through the kit's printer
namespace Go.Proofs.Ytkhpojcplejdjaa.A
open Go.RowKit Go.Proofs.YtkhpojcplejdjaaW.PrintWords Go.Proofs.YtkhpojcplejdjaaW.PrintLast Go.Proofs.YtkhpojcplejdjaaW.PrintMore
attribute [local go_sem] max2_int min2_int max_two min_two max_three min_three max_four min_four
set_option linter.unusedVariables false
set_option linter.unusedSimpArgs false

/-! ### spec_l1All: function 77 -/
def spec_l1All.l0 : Nat → Int → Int → List Int → Int → Int → Option (Bool)
 | 0, _, _, _, _, _ => none
 | k + 1, x1, x2, x9, x10, x11 => if x11 < x10 then (if 0 ≤ x11 then (if x11 < (x9.length : Int) then ((spec_l1In.f (rd x9 x11) x1 x2).bind fun t104 => (if t104 = true then (spec_l1All.l0 k x1 x2 x9 x10 (wrap64 (x11 + 1))) else (some false))) else (none)) else (none)) else (some true)
def spec_l1All.f (k : Nat) (l0 : List Int) (a1 : Int) (a2 : Int) : Option (Bool) := spec_l1All.l0 k a1 a2 l0 (l0.length : Int) 0
set_option maxHeartbeats 8000000 in
set_option maxRecDepth 100000 in
theorem spec_l1All.calls (k : Nat) (A0 : Option Addr) (c0 : Nat) (l0 : List Int) (a1 : Int) (a2 : Int) (r : Bool) (w : World) (hr0 : Kd.C (Kd.int .i64) w A0 l0.length l0) (hc0 : l0.length ≤ c0) (h : spec_l1All.f k l0 a1 a2 = some r) :
 Calls Try.prog 77 #[.slice A0 l0.length c0, .int .i64 a1, .int .i64 a2] w fun e w' => e = .returned (.bool r) ∧ Drawn0 w w' := by
 have HR0 := Aside0.mk hr0
 have HC0 := Aside0.mk hc0
 clear hr0 hc0
 have H : (spec_l1All.l0 k a1 a2 l0 (l0.length : Int) 0) = some r := h
 clear h
 have H' := Aside0.mk H
 clear H
 go_enter Try.func77, Try.ntmps77
 go_wp2
 go_loopg [11] k (fun kq v11 w' => ∃ (x11_1 : Int), v11 = .int .i64 x11_1 ∧ Aside0 (spec_l1All.l0 kq a1 a2 l0 (l0.length : Int) x11_1 = some r) ∧ Aside0 (kq ≤ k) ∧ Drawn0 w w')
 case atStart => exact ⟨(0), (by first | rfl | (simp; done) | (simp [*]; done)), H', ⟨Nat.le_refl _⟩, by repeat (first | exact Drawn0.refl _ | apply Drawn0.step)⟩
 case round =>
  clear H'
  try clear p2
  obtain ⟨x11_1, rfl, HA, HK1, ⟨m1, rfl⟩⟩ := hrel
  cases gk with
  | zero => exact absurd HA.out (by simp [spec_l1All.l0])
  | succ k1 =>
   have H := HA.out
   clear HA
   simp only [spec_l1All.l0] at H
   by_cases c4 : x11_1 < (l0.length : Int)
   · rw [if_pos c4] at H
     have c4b0 : decide (x11_1 < (l0.length : Int)) = true := decide_eq_true c4
     clear c4
     by_cases c5 : 0 ≤ x11_1
     · rw [if_pos c5] at H
       have c5b0 : decide (0 ≤ x11_1) = true := decide_eq_true c5
       clear c5
       by_cases c6 : x11_1 < (l0.length : Int)
       · rw [if_pos c6] at H
         have c6b0 : decide (x11_1 < (l0.length : Int)) = true := decide_eq_true c6
         clear c6
         replace H := Option.bind_eq_some_iff.mp H
         obtain ⟨t104, A70, H⟩ := H
         replace H : (if t104 = true then (spec_l1All.l0 k1 a1 a2 l0 (l0.length : Int) (wrap64 (x11_1 + 1))) else (some false)) = some r := H
         have A7 := Aside0.mk A70
         clear A70
         by_cases c8 : t104 = true
         · subst c8
           have H1 : (spec_l1All.l0 k1 a1 a2 l0 (l0.length : Int) (wrap64 (x11_1 + 1))) = some r := by rw [if_pos rfl] at H; exact H
           clear H
           have H := H1
           clear H1
           have H' := Aside0.mk H
           clear H
           have p103 : 0 ≤ (x11_1 : Int) := of_decide_eq_true (by first | (with_reducible assumption) | assumption)
           have q103 : x11_1 < (l0.length : Int) := of_decide_eq_true (by first | (with_reducible assumption) | assumption)
           obtain ⟨ad103, e103, hx103_0⟩ := Kd.at_int HR0.out x11_1 p103 q103
           cases e103
           replace p103 := eq_true p103
           replace q103 := eq_true q103
           go_wp2_with (first | ((with_reducible refine gate_callee (f := 64) rfl ?_); refine goesL_ (some 18) rfl rfl Try.func64 (by kernel_rfl) rfl #[.int .i64 (rd l0 x11_1), .int .i64 a1, .int .i64 a2] rfl (by (try simp only [List.map_toArray, List.map_cons, List.map_nil]); first | done | rfl | (simp only [List.length_drop, List.length_take]; rfl)) ?_; (with_reducible refine (spec_l1In.calls (rd l0 x11_1) a1 a2 true _ A7.out).mono ?_); rintro e w' ⟨rfl, ⟨nd, rfl⟩⟩; refine ⟨_, rfl, ?_⟩))
           go_roundg k1
           case measure => have := HK1.out; omega
           case rel => exact ⟨(wrap64 (x11_1 + 1)), (by first | rfl | (simp; done) | (simp [*]; done)), H', ⟨by have := HK1.out; omega⟩, by repeat (first | exact Drawn0.refl _ | apply Drawn0.step)⟩
         · replace c8 := Bool.eq_false_iff.mpr c8
           subst c8
           have H1 : (some false) = some r := by rw [if_neg (show ¬ (false = true) by decide)] at H; exact H
           clear H
           have H := H1
           clear H1
           obtain rfl := Option.some.inj H
           have p103 : 0 ≤ (x11_1 : Int) := of_decide_eq_true (by first | (with_reducible assumption) | assumption)
           have q103 : x11_1 < (l0.length : Int) := of_decide_eq_true (by first | (with_reducible assumption) | assumption)
           obtain ⟨ad103, e103, hx103_0⟩ := Kd.at_int HR0.out x11_1 p103 q103
           cases e103
           replace p103 := eq_true p103
           replace q103 := eq_true q103
           go_wp2_with (first | ((with_reducible refine gate_callee (f := 64) rfl ?_); refine goesL_ (some 18) rfl rfl Try.func64 (by kernel_rfl) rfl #[.int .i64 (rd l0 x11_1), .int .i64 a1, .int .i64 a2] rfl (by (try simp only [List.map_toArray, List.map_cons, List.map_nil]); first | done | rfl | (simp only [List.length_drop, List.length_take]; rfl)) ?_; (with_reducible refine (spec_l1In.calls (rd l0 x11_1) a1 a2 false _ A7.out).mono ?_); rintro e w' ⟨rfl, ⟨nd, rfl⟩⟩; refine ⟨_, rfl, ?_⟩))
           go_ret
           exact ⟨by first | rfl | (simp; done) | (simp [*]; done), by repeat (first | exact Drawn0.refl _ | apply Drawn0.step)⟩
       · rw [if_neg c6] at H
         exact absurd H (by simp)
     · rw [if_neg c5] at H
       exact absurd H (by simp)
   · rw [if_neg c4] at H
     have c4b0 : decide (x11_1 < (l0.length : Int)) = false := decide_eq_false c4
     clear c4
     obtain rfl := Option.some.inj H
     go_wp2
     go_ret
     exact ⟨by first | rfl | (simp; done) | (simp [*]; done), by repeat (first | exact Drawn0.refl _ | apply Drawn0.step)⟩

end Go.Proofs.Ytkhpojcplejdjaa.A

namespace Go.Proofs.Ytkhpojcplejdjaa.A
open Go.RowKit Go.Proofs.YtkhpojcplejdjaaW.PrintWords Go.Proofs.YtkhpojcplejdjaaW.PrintLast Go.Proofs.YtkhpojcplejdjaaW.PrintMore
set_option linter.unusedVariables false
set_option linter.unusedSimpArgs false
/-! plain lemmas that all pure texts lean on -/
theorem w64 {x : Int} (h1 : -9223372036854775808 ≤ x) (h2 : x ≤ 9223372036854775807) : wrap64 x = x := by
 unfold wrap64
 omega
theorem wsucc {i : Nat} {n : Nat} (h : i < n) (hn : n ≤ 9223372036854775807) : wrap64 ((i : Int) + 1) = ((i + 1 : Nat) : Int) := by
 rw [w64 (by omega) (by omega)]
 omega
theorem rdn {xs : List Int} {i : Nat} (h : i < xs.length) : rd xs (i : Int) = xs[i] := by
 simp [rd, h]
theorem Ev.succ {α : Type} {g : Nat → Option α} {r : α} (h : Ev (fun k => g (k + 1)) r) : Ev g r := Ev.step (fun _ => rfl) h
theorem Ev.get {α : Type} {g : Nat → Option α} {r : α} (h : Ev g r) : ∃ k, g k = some r := Ev.rounds h
theorem Ev.ite {α : Type} {c : Prop} [Decidable c] {g f : Nat → Option α} {r s : α} (h : c → Ev g r) (h' : ¬ c → Ev f s) : Ev (fun k => if c then g k else f k) (if c then r else s) := by
 by_cases hc : c
 · simp only [hc, if_true]
   exact h hc
 · simp only [hc, if_false]
   exact h' hc
/-- A loop over the elements of a list that is left early. -/
theorem ev_all {xs : List Int} {g : Nat → Int → Option Bool} (p : Int → Bool) (hend : Ev (fun k => g k (xs.length : Int)) true)
 (hyes : ∀ (i : Nat) (h : i < xs.length) r, p xs[i] = true → Ev (fun k => g k ((i + 1 : Nat) : Int)) r → Ev (fun k => g k (i : Int)) r)
 (hno : ∀ (i : Nat) (h : i < xs.length), p xs[i] = false → Ev (fun k => g k (i : Int)) false) :
 ∀ (n i : Nat), i + n = xs.length → Ev (fun k => g k (i : Int)) ((xs.drop i).all p)
 | 0, i, h => by
  rw [List.drop_eq_nil_of_le (by omega), show i = xs.length by omega]
  exact hend
 | n + 1, i, h => by
  have hi : i < xs.length := by omega
  rw [List.drop_eq_getElem_cons hi, List.all_cons]
  cases hp : p xs[i]
  · exact hno i hi hp
  · rw [Bool.true_and]
    exact hyes i hi _ hp (ev_all p hend hyes hno n (i + 1) (by omega))
/-- A loop over the elements of a list that carries a state. -/
theorem ev_fold {σ ρ : Type} {xs : List Int} {g : Nat → σ → Int → Option ρ} (step : σ → Int → σ) (I : σ → Nat → Prop) (fin : σ → ρ)
 (hend : ∀ s, I s xs.length → Ev (fun k => g k s (xs.length : Int)) (fin s))
 (hstep : ∀ (i : Nat) (h : i < xs.length) s r, I s i → I (step s xs[i]) (i + 1) → Ev (fun k => g k (step s xs[i]) ((i + 1 : Nat) : Int)) r → Ev (fun k => g k s (i : Int)) r)
 (hI : ∀ (i : Nat) (h : i < xs.length) s, I s i → I (step s xs[i]) (i + 1)) :
 ∀ (n i : Nat) (s : σ), i + n = xs.length → I s i → Ev (fun k => g k s (i : Int)) (fin ((xs.drop i).foldl step s))
 | 0, i, s, h, hs => by
  have e : i = xs.length := by omega
  subst e
  rw [List.drop_eq_nil_of_le (by omega)]
  exact hend s hs
 | n + 1, i, s, h, hs => by
  have hi : i < xs.length := by omega
  rw [List.drop_eq_getElem_cons hi, List.foldl_cons]
  exact hstep i hi s _ hs (hI i hi s hs) (ev_fold step I fin hend hstep hI n (i + 1) _ (by omega) (hI i hi s hs))
end Go.Proofs.Ytkhpojcplejdjaa.A

namespace Go.Proofs.Ytkhpojcplejdjaa.A
open Go.RowKit Go.Proofs.YtkhpojcplejdjaaW.PrintWords Go.Proofs.YtkhpojcplejdjaaW.PrintLast Go.Proofs.YtkhpojcplejdjaaW.PrintMore
set_option linter.unusedVariables false
set_option linter.unusedSimpArgs false
theorem l1In_eq (a b c : Int) : spec_l1In.f a b c = some (decide (b ≤ a ∧ a ≤ c)) := by
 unfold spec_l1In.f
 by_cases h : b ≤ a <;> simp [h]
theorem within_eq (a b c : Int) : impl_within.f a b c = some (decide (b ≤ a ∧ a ≤ c)) := by
 unfold impl_within.f
 by_cases h : b ≤ a <;> simp [h]
end Go.Proofs.Ytkhpojcplejdjaa.A

namespace Go.Proofs.Ytkhpojcplejdjaa.A
open Go.RowKit Go.Proofs.YtkhpojcplejdjaaW.PrintWords Go.Proofs.YtkhpojcplejdjaaW.PrintLast Go.Proofs.YtkhpojcplejdjaaW.PrintMore
set_option linter.unusedVariables false
set_option linter.unusedSimpArgs false
def inR (lo hi : Int) (xs : List Int) : Bool := xs.all fun x => decide (lo ≤ x ∧ x ≤ hi)
theorem l1All_ev (xs : List Int) (lo hi : Int) (hx : xs.length ≤ 9223372036854775807) : Ev (fun k => spec_l1All.f k xs lo hi) (inR lo hi xs) := by
 have h := ev_all (xs := xs) (g := fun k i => spec_l1All.l0 k lo hi xs (xs.length : Int) i) (fun x => decide (lo ≤ x ∧ x ≤ hi))
  (Ev.succ (by simp only [spec_l1All.l0, if_neg (Int.lt_irrefl _)]; exact Ev.now _))
  (fun i h r hp hr => Ev.succ (by
   simp only [spec_l1All.l0, if_pos (show (i : Int) < (xs.length : Int) by omega), if_pos (show (0 : Int) ≤ (i : Int) by omega), rdn h, l1In_eq, Option.bind_some, hp, if_true, wsucc h hx]
   exact hr))
  (fun i h hp => Ev.succ (by
   simp only [spec_l1All.l0, if_pos (show (i : Int) < (xs.length : Int) by omega), if_pos (show (0 : Int) ≤ (i : Int) by omega), rdn h, l1In_eq, Option.bind_some, hp]
   exact Ev.now _)) xs.length 0 (by omega)
 exact h
theorem allWithin_ev (xs : List Int) (lo hi : Int) (hx : xs.length ≤ 9223372036854775807) : Ev (fun k => impl_allWithin.f k xs lo hi) (inR lo hi xs) := by
 have h := ev_all (xs := xs) (g := fun k i => impl_allWithin.l0 k lo hi xs (xs.length : Int) i) (fun x => decide (lo ≤ x ∧ x ≤ hi))
  (Ev.succ (by simp only [impl_allWithin.l0, if_neg (Int.lt_irrefl _)]; exact Ev.now _))
  (fun i h r hp hr => Ev.succ (by
   simp only [impl_allWithin.l0, if_pos (show (i : Int) < (xs.length : Int) by omega), if_pos (show (0 : Int) ≤ (i : Int) by omega), rdn h, within_eq, Option.bind_some, hp, if_true, wsucc h hx]
   exact hr))
  (fun i h hp => Ev.succ (by
   simp only [impl_allWithin.l0, if_pos (show (i : Int) < (xs.length : Int) by omega), if_pos (show (0 : Int) ≤ (i : Int) by omega), rdn h, within_eq, Option.bind_some, hp]
   exact Ev.now _)) xs.length 0 (by omega)
 exact h
end Go.Proofs.Ytkhpojcplejdjaa.A

/- slices.IndexFunc, slices.ContainsFunc at elements of one cell, told for any program that bears them (the shelf's worked proof, turned to rows that begin anywhere). -/
namespace Go.Proofs.Ytkhpojcplejdjaa.A
open Go.RowKit Go.Proofs.YtkhpojcplejdjaaW.PrintWords Go.Proofs.YtkhpojcplejdjaaW.PrintLast Go.Proofs.YtkhpojcplejdjaaW.PrintMore
attribute [local go_sem] max2_int min2_int max_two min_two max_three min_three max_four min_four
set_option linter.unusedVariables false
set_option linter.unusedSimpArgs false

open Go.Shelf Go.Lib
set_option maxHeartbeats 2000000 in
theorem anyIdx {P : Program} {ρ : Ren} (L : SlLaysH.n6 P ρ) (ad : Addr) (n c : Nat) (vs : Nat → Value) (ps : Nat → Bool) (g : Nat) (lb : Array Value) (w : World) (eg : ∀ args w, (callFunc g args).run P w = .ok (.enter g args) w) (hbig : n ≤ 9223372036854775807)
 (hcell : ∀ j, j < n → w.cell? (ad.add j) = some (vs j)) (hcall : ∀ j, j < n → ∀ q, Calls P g (#[vs j] ++ lb) (w.drewN q) fun e w' => e = .returned (.bool (ps j)) ∧ ∃ q', w' = (w.drewN q).drewN q') :
 Calls P (ρ.f 6) #[.slice (some ad) n c, .func (.func g) #[] lb] w fun e w' => ∃ i : Int, e = .returned (.int .i64 i) ∧ (0 ≤ i ↔ ∃ j, j < n ∧ ps j = true) ∧ ∃ q, w' = w.drewN q := by
 have mixed := L.mixed; have t0 := L.t0; have a0 := L.a0; have z0 := L.z0; have v0 := L.v0; have t3 := L.t3; have a3 := L.a3; have z3 := L.z3; have v3 := L.v3; have t4 := L.t4; have a4 := L.a4; have z4 := L.z4; have v4 := L.v4; have t22 := L.t22; have a22 := L.a22; have z22 := L.z22; have v22 := L.v22; have a23 := L.a23; have z23 := L.z23; have t25 := L.t25; have a25 := L.a25; have z25 := L.z25; have v25 := L.v25
 have HC := Aside0.mk hcell
 have HF := Aside0.mk hcall
 clear hcell hcall
 obtain ⟨_, _, FG⟩ := L.f6
 go_enter FG, SlBodyH.n6_ntmps ρ
 go_wp2
 go_loopg [5, 8] n (fun gg _ s8 wr => ∃ kk q : Nat, kk ≤ n ∧ n - kk ≤ gg ∧ s8 = .int .i64 kk ∧ wr = w.drewN q ∧ Aside0 (∀ j, j < kk → ps j = false))
 case atStart => exact ⟨0, 0, Nat.zero_le _, by omega, rfl, rfl, ⟨fun j hj => absurd hj (Nat.not_lt_zero _)⟩⟩
 case round =>
  obtain ⟨kk, q, hkk, hg, rfl, rfl, HA⟩ := hrel
  by_cases hlt : kk < n
  · have hltz : (kk : Int) < (n : Int) := by omega
    have hce := HC.out kk hlt
    have hca := HF.out kk hlt
    generalize vs kk = v at hce hca
    cases hq : ps kk with
    | true =>
     rw [hq] at hca
     go_wp2_with (go_at_fn g; refine (hca _).mono ?_; rintro e w' ⟨rfl, q', rfl⟩)
     go_ret
     exact ⟨_, rfl, ⟨fun _ => ⟨kk, hlt, hq⟩, fun _ => by omega⟩, _, rfl⟩
    | false =>
     rw [hq] at hca
     go_wp2_with (go_at_fn g; refine (hca _).mono ?_; rintro e w' ⟨rfl, q', rfl⟩)
     go_roundg (n - (kk + 1))
     case measure => omega
     case rel =>
      refine ⟨kk + 1, _, by omega, by omega, by go_num, rfl, ⟨fun j hj => ?_⟩⟩
      by_cases e : j = kk
      · subst e
        exact hq
      · exact HA.out j (by omega)
  · have hltz : ¬ (kk : Int) < (n : Int) := by omega
    have : kk = n := by omega
    subst this
    go_wp2
    go_ret
    refine ⟨_, rfl, ⟨fun h => absurd h (by decide), ?_⟩, q, rfl⟩
    rintro ⟨j, hj, hp⟩
    rw [HA.out j hj] at hp
    cases hp
set_option maxHeartbeats 2000000 in
theorem anyHas {P : Program} {ρ : Ren} (L : SlLaysH.n8 P ρ) (ad : Addr) (n c : Nat) (vs : Nat → Value) (ps : Nat → Bool) (g : Nat) (lb : Array Value) (w : World) (eg : ∀ args w, (callFunc g args).run P w = .ok (.enter g args) w) (hbig : n ≤ 9223372036854775807)
 (hcell : ∀ j, j < n → w.cell? (ad.add j) = some (vs j)) (hcall : ∀ j, j < n → ∀ q, Calls P g (#[vs j] ++ lb) (w.drewN q) fun e w' => e = .returned (.bool (ps j)) ∧ ∃ q', w' = (w.drewN q).drewN q') :
 Calls P (ρ.f 8) #[.slice (some ad) n c, .func (.func g) #[] lb] w fun e w' => ∃ r : Bool, e = .returned (.bool r) ∧ (r = true ↔ ∃ j, j < n ∧ ps j = true) ∧ ∃ q, w' = w.drewN q := by
 have mixed := L.mixed; have t0 := L.t0; have a0 := L.a0; have z0 := L.z0; have v0 := L.v0; have t3 := L.t3; have a3 := L.a3; have z3 := L.z3; have v3 := L.v3; have t4 := L.t4; have a4 := L.a4; have z4 := L.z4; have v4 := L.v4; have t22 := L.t22; have a22 := L.a22; have z22 := L.z22; have v22 := L.v22; have a23 := L.a23; have z23 := L.z23; have t25 := L.t25; have a25 := L.a25; have z25 := L.z25; have v25 := L.v25
 have e6 : ∀ args w, (callFunc (ρ.f 6) args).run P w = .ok (.enter (ρ.f 6) args) w := L.f6.enters rfl
 have HC := Aside0.mk hcell
 have HF := Aside0.mk hcall
 clear hcell hcall
 obtain ⟨_, _, FG⟩ := L.f8
 go_enter FG, SlBodyH.n8_ntmps ρ
 go_wp2_with (go_at_fn (ρ.f 6); refine (anyIdx { L with } ad n c vs ps g lb _ eg hbig HC.out HF.out).mono ?_; rintro e w' ⟨i, rfl, hi, q, rfl⟩)
 go_ret
 exact ⟨_, rfl, decide_eq_true_iff, q, rfl⟩
end Go.Proofs.Ytkhpojcplejdjaa.A

/-
  DERIVED: THE SHELF's CONTRACTS AT THIS DUMP, IN PLAIN WORDS (tools/lay-plain.mjs out of 'YtkhpojcplejdjaaShelfH.lean', which tools/lay-shelf.mjs wrote): THE SAME DECLARATIONS UNDER THE SAME NAMES: 'import', 'namespace', 'open', 'def', 'theorem' AND NOTHING ELSE: no command of the shelf's: FOR A HAND-IN. Each laying: the table of numbers ('.._ren') and one theorem, a field a fact of the dump's own or the kernel's comparison; each contract: ONE APPLICATION.
-/
namespace Go.Proofs
open Go.Shelf
def Try.hasL_ren : Go.Shelf.Ren := ⟨fun | 8 => 70 | 6 => 101 | n => n, fun | 22 => 22 | 23 => 24 | 25 => 71 | 4 => 4 | 3 => 3 | 0 => 0 | n => n, fun | n => n⟩
theorem Try.hasL : Go.Proofs.SlLaysH.n8 Try.prog Try.hasL_ren := {
 mixed := by kernel_rfl
 f6 := ⟨Try.f101.name, by decide, Try.func101.trans (congrArg some (by kernel_rfl))⟩
 f8 := ⟨Try.f70.name, by decide, Try.func70.trans (congrArg some (by kernel_rfl))⟩
 t0 := Try.underlying0
 a0 := Try.isAgg0
 z0 := Try.sizeOf0
 v0 := Try.zeroValue0
 t3 := Try.underlying3
 a3 := Try.isAgg3
 z3 := Try.sizeOf3
 v3 := Try.zeroValue3
 t4 := Try.underlying4
 a4 := Try.isAgg4
 z4 := Try.sizeOf4
 v4 := Try.zeroValue4
 t22 := Try.underlying22
 a22 := Try.isAgg22
 z22 := Try.sizeOf22
 v22 := Try.zeroValue22
 a23 := Try.isAgg24
 z23 := Try.sizeOf24
 t25 := Try.underlying71
 a25 := Try.isAgg71
 z25 := Try.sizeOf71
 v25 := Try.zeroValue71 }
end Go.Proofs

/- IsSquare: slices.ContainsFunc over rows, with a function that has captured the table. -/
namespace Go.Proofs.Ytkhpojcplejdjaa.A
open Go.RowKit Go.Proofs.YtkhpojcplejdjaaW.PrintWords Go.Proofs.YtkhpojcplejdjaaW.PrintLast Go.Proofs.YtkhpojcplejdjaaW.PrintMore
attribute [local go_sem] max2_int min2_int max_two min_two max_three min_three max_four min_four
set_option linter.unusedVariables false
set_option linter.unusedSimpArgs false

open Go.Shelf Go.Lib
def rowB (n : Nat) (x : List Int) : Bool := decide ((x.length : Int) = (n : Int)) && inR 0 1000000 x
def squareB (l0 : List (List Int)) : Bool := decide ((1 : Int) ≤ l0.length ∧ (l0.length : Int) ≤ 6) && l0.all (rowB l0.length)
def impl_IsSquare.f (l0 : List (List Int)) : Option Bool := if (l0.all fun x => decide (x.length ≤ 1048576)) = true ∧ l0.length ≤ 1048576 then some (squareB l0) else none
theorem sq_row (ad : Option Addr) (B : Nat) (n : Nat) (A0 : Option Addr) (c0 cx : Nat) (x : List Int) (W : World) (hx : x.length ≤ 1048576) (hB : W.cell? ⟨B, 0, none⟩ = some (.slice A0 n c0)) (hr : Kd.C (Kd.int .i64) W ad x.length x) (hc : x.length ≤ cx) :
 Calls Try.prog 94 #[.slice ad x.length cx, .pointer (some ⟨B, 0, none⟩)] W fun e w' => e = .returned (.bool (!rowB n x)) ∧ ∃ q, w' = W.drewN q := by
 obtain ⟨k, hk⟩ := Ev.get (allWithin_ev x 0 1000000 (by omega))
 have HR := Aside0.mk hr
 have HC := Aside0.mk hc
 have HK := Aside0.mk hk
 clear hr hc hk
 have hdef : rowB n x = (decide ((x.length : Int) = (n : Int)) && inR 0 1000000 x) := rfl
 rw [hdef]
 have HX := Aside0.mk hx
 clear hdef hx
 by_cases h : (x.length : Int) = (n : Int)
 · have h1 : ((x.length : Int) != (n : Int)) = false := bne_eq_false_iff_eq.mpr h
   rw [decide_eq_true h]
   have HH := Aside0.mk h
   clear h
   go_enter Try.func94, Try.ntmps94
   go_wp2_with (go_at_call 69; refine (impl_allWithin.calls k _ _ x 0 1000000 _ _ ?side1 ?side2 HK.out).mono ?_; (case side1 => repeat (first | exact HR.out | (with_reducible refine Kd.C_alloc ?_ _) | (with_reducible refine Kd.C_drewN ?_ _) | (with_reducible refine Kd.C_drew ?_))); (case side2 => exact HC.out); rintro e w' ⟨rfl, ⟨nd, rfl⟩⟩)
   go_ret
   exact ⟨by simp, _, rfl⟩
 · have h1 : ((x.length : Int) != (n : Int)) = true := bne_iff_ne.mpr h
   rw [decide_eq_false h]
   have HH := Aside0.mk h
   clear h
   go_enter Try.func94, Try.ntmps94
   go_wp2
   go_ret
   exact ⟨by simp, 0, rfl⟩
theorem rowsAt {w : World} {ad : Addr} {l0 : List (List Int)} (hr0 : Kd.C (Kd.slice 3 (Kd.int .i64)) w (some ad) l0.length l0) : ∃ vs : Nat → Value, ∀ j, j < l0.length → w.cell? (ad.add j) = some (vs j) ∧ ∃ A c, vs j = .slice A (l0.getD j []).length c ∧ (l0.getD j []).length ≤ c ∧ Kd.C (Kd.int .i64) w A (l0.getD j []).length (l0.getD j []) := by
 have hrows : ∀ j, j < l0.length → ∃ v : Value, w.cell? (ad.add j) = some v ∧ ∃ A c, v = .slice A (l0.getD j []).length c ∧ (l0.getD j []).length ≤ c ∧ Kd.C (Kd.int .i64) w A (l0.getD j []).length (l0.getD j []) := fun j hj => by
  obtain ⟨ad', A, c, he, hcell, hle, hC⟩ := at_L1 hr0 (j : Int) (by omega) (by omega)
  cases he
  exact ⟨_, hcell, A, c, rfl, hle, hC⟩
 exact ⟨fun j => if h : j < l0.length then Classical.choose (hrows j h) else .bool false, fun j h => by
  simp only [dif_pos h]
  exact Classical.choose_spec (hrows j h)⟩
set_option maxHeartbeats 4000000 in
set_option maxRecDepth 100000 in
theorem impl_IsSquare.calls (A0 : Option Addr) (c0 : Nat) (l0 : List (List Int)) (r : Bool) (w : World) (hr0 : Kd.C (Kd.slice 3 (Kd.int .i64)) w A0 l0.length l0) (hc0 : l0.length ≤ c0) (h : impl_IsSquare.f l0 = some r) :
 Calls Try.prog 47 #[.slice A0 l0.length c0] w fun e w' => e = .returned (.bool r) ∧ Below w.heap.size w w' := by
 unfold impl_IsSquare.f at h
 split at h
 next hb =>
  have hr := Option.some.inj h
  clear h
  obtain ⟨hb1, hb2⟩ := hb
  have HW := Aside0.mk (within_eq (l0.length : Int) 1 6)
  by_cases hw : (1 : Int) ≤ l0.length ∧ (l0.length : Int) ≤ 6
  · obtain ⟨ad, _, _, hA, _⟩ := at_L1 hr0 0 (by omega) (by omega)
    subst hA
    obtain ⟨vs, hvs⟩ := rowsAt hr0
    have eg : ∀ args w, (callFunc 94 args).run Try.prog w = .ok (.enter 94 args) w := enters_of Try.func94 (by kernel_rfl) rfl
    have hcon := fun q => anyHas Try.hasL ad l0.length c0 vs (fun j => !rowB l0.length (l0.getD j [])) 94 #[.pointer (some ⟨w.heap.size, 0, none⟩)] ((w.alloc (.cells #[.slice (some ad) l0.length c0] 22)).drewN q) eg (by omega)
     (fun j hj => pw_cell_below (pw_below_drewN (below_alloc (Below.refl _ _) _) q) (hvs j hj).1)
     (fun j hj q' => by
      obtain ⟨A, c, hv, hle, hC⟩ := (hvs j hj).2
      rw [hv]
      have hm : l0.getD j [] ∈ l0 := by
       rw [List.getD_eq_getElem?_getD, List.getElem?_eq_getElem hj]
       exact List.getElem_mem hj
      have hx : (l0.getD j []).length ≤ 1048576 := by simpa using List.all_eq_true.1 hb1 _ hm
      exact sq_row A w.heap.size l0.length (some ad) c0 c (l0.getD j []) _ hx (by show (w.alloc (.cells #[.slice (some ad) l0.length c0] 22)).cell? ⟨w.heap.size, 0, none⟩ = _; simp) (Kd.C_below hC (pw_below_drewN (pw_below_drewN (below_alloc (Below.refl _ _) _) q) q')) hle)
    have HCON := Aside0.mk (show ∀ q, Calls Try.prog 70 #[.slice (some ad) l0.length c0, .func (.func 94) #[] #[.pointer (some ⟨w.heap.size, 0, none⟩)]] ((w.alloc (.cells #[.slice (some ad) l0.length c0] 22)).drewN q) (fun e w' => ∃ r : Bool, e = .returned (.bool r) ∧ (r = true ↔ ∃ j, j < l0.length ∧ (!rowB l0.length (l0.getD j [])) = true) ∧ ∃ q', w' = ((w.alloc (.cells #[.slice (some ad) l0.length c0] 22)).drewN q).drewN q') from hcon)
    have HD := Aside0.mk (show impl_within.f (l0.length : Int) 1 6 = some true by rw [HW.out, decide_eq_true hw])
    have HR := Aside0.mk hr
    have HL := Aside0.mk hb2
    have HX := Aside0.mk hw
    clear hcon hvs eg hr hb1 hb2 hw hr0 hc0
    go_enter Try.func47, Try.ntmps47
    go_wp2_with (first | (go_at_call 62; refine (impl_within.calls (l0.length : Int) 1 6 true _ HD.out).mono ?_; rintro e w' ⟨rfl, ⟨nd, rfl⟩⟩) | (go_at_call 70; refine (HCON.out _).mono ?_; rintro e w' ⟨rb, rfl, hi, q, rfl⟩; have HI := Aside0.mk hi; clear hi))
    go_ret
    refine ⟨?_, by repeat (first | exact Below.refl _ _ | apply below_alloc | apply pw_below_drewN | apply below_drew1)⟩
    have e : (!rb) = r := by
     rw [← HR.out]
     unfold squareB
     rw [decide_eq_true HX.out, Bool.true_and, Bool.eq_iff_iff, Bool.not_eq_true', List.all_eq_true]
     constructor
     · intro hf x hx
       obtain ⟨j, hj, rfl⟩ := List.mem_iff_getElem.1 hx
       cases hq : rowB l0.length l0[j] with
       | true => rfl
       | false =>
        have : rb = true := HI.out.2 ⟨j, hj, by rw [List.getD_eq_getElem?_getD, List.getElem?_eq_getElem hj]; simp [hq]⟩
        rw [this] at hf
        cases hf
     · intro ha
       cases hrb : rb with
       | false => rfl
       | true =>
        obtain ⟨j, hj, hn⟩ := HI.out.1 hrb
        have := ha _ (List.getElem_mem hj)
        rw [List.getD_eq_getElem?_getD, List.getElem?_eq_getElem hj] at hn
        simp [this] at hn
    rw [← e]
    rfl
  · have HD := Aside0.mk (show impl_within.f (l0.length : Int) 1 6 = some false by rw [HW.out, decide_eq_false hw])
    have e : r = false := by
     rw [← hr]
     unfold squareB
     rw [decide_eq_false hw, Bool.false_and]
    subst e
    clear hr hb1 hw hr0 hc0 HW
    go_enter Try.func47, Try.ntmps47
    go_wp2_with (go_at_call 62; refine (impl_within.calls (l0.length : Int) 1 6 false _ HD.out).mono ?_; rintro e w' ⟨rfl, ⟨nd, rfl⟩⟩)
    go_ret
    exact ⟨rfl, by repeat (first | exact Below.refl _ _ | apply below_alloc | apply pw_below_drewN | apply below_drew1)⟩
 next => cases h
end Go.Proofs.Ytkhpojcplejdjaa.A

/- Words for PartsOf: what one round does; where a table's number lies. -/
namespace Go.Proofs.Ytkhpojcplejdjaa.A
open Go.RowKit Go.Proofs.YtkhpojcplejdjaaW.PrintWords Go.Proofs.YtkhpojcplejdjaaW.PrintLast Go.Proofs.YtkhpojcplejdjaaW.PrintMore
attribute [local go_sem] max2_int min2_int max_two min_two max_three min_three max_four min_four
set_option linter.unusedVariables false
set_option linter.unusedSimpArgs false

/-! PartsOf: what one round does -/
def pOk (x5 : List (List Int)) (p : List Int) (i : Nat) : Bool := decide (i < x5.length ∧ 0 ≤ rd p (i : Int) ∧ rd p (i : Int) < ((rd_L1 x5 (i : Int)).length : Int))
def pEnt (x5 : List (List Int)) (p : List Int) (i : Nat) : Int := rd (rd_L1 x5 (i : Int)) (rd p (i : Int))
def pLeast (x5 : List (List Int)) (p : List Int) : Nat → Nat → Int → Option Int
 | 0, _, a => some a
 | d + 1, i, a => if pOk x5 p i = true then pLeast x5 p d (i + 1) (min a (pEnt x5 p i)) else none
def pSub (p : List Int) (c : Int) : Nat → Nat → List (List Int) → Option (List (List Int))
 | 0, _, x5 => some x5
 | d + 1, i, x5 => if pOk x5 p i = true then pSub p c d (i + 1) (x5.set i ((rd_L1 x5 (i : Int)).set (rd p (i : Int)).toNat (wrap64 (pEnt x5 p i - c)))) else none
theorem cut_above {W : World} {base : Nat} {ok : Nat → Prop} {v : Value} {l : List (List Int)} (h : Kd.S (Kd.slice 3 (Kd.int .i64)) 24 W base ok v l) : ∃ n1, n1 = W.heap.size ∧ Kd.S (Kd.slice 3 (Kd.int .i64)) 24 W base (fun k => k < n1) v l := ⟨_, rfl, Kd.S_mono (Kd.S_bound h) (fun _ hk => hk.2.2.1)⟩
/-- The blocks from n1 on that were there are as they were. -/
def KeptUp (n1 : Nat) (W W' : World) : Prop := W.heap.size ≤ W'.heap.size ∧ ∀ k, n1 ≤ k → k < W.heap.size → W'.heap[k]? = W.heap[k]?
theorem KeptUp.refl (n1 : Nat) (W : World) : KeptUp n1 W W := ⟨Nat.le_refl _, fun _ _ _ => rfl⟩
theorem KeptUp.grown {n1 : Nat} {W W1 W2 : World} {g : Nat} (h : KeptUp n1 W W1) (hg : W1.grownBy W2 (some g)) (hlt : g < n1) : KeptUp n1 W W2 :=
 ⟨Nat.le_trans h.1 hg.size, fun k hk hl => (hg.block k (Nat.lt_of_lt_of_le hl h.1) (fun e => by injection e with e; omega)).trans (h.2 k hk hl)⟩
/-- Where a number of the table lies, and which. -/
theorem ent_at {W : World} {base : Nat} {ok : Nat → Prop} {A : Option Addr} {n c : Nat} {l : List (List Int)} (h : Kd.S (Kd.slice 3 (Kd.int .i64)) 24 W base ok (.slice A n c) l) {p : List Int} {i : Nat} (hok : pOk l p i = true) :
 ∃ (ad : Addr) (go cc : Nat), A = some ad ∧ (W.cell? (ad.add i) = some (.slice (some ⟨go, 0, none⟩) (rd_L1 l (i : Int)).length cc) ∧ W.cell? ⟨go, (rd p (i : Int)).toNat, none⟩ = some (.int .i64 (pEnt l p i)) ∧ W.frozen? ⟨go, (rd p (i : Int)).toNat, none⟩ = false) ∧ base ≤ go ∧ ok go ∧ ad.block ≠ go := by
 unfold pOk at hok
 rw [decide_eq_true_eq] at hok
 obtain ⟨hi, k0, k1⟩ := hok
 obtain rfl := (Kd.S_reads' h).1
 obtain ⟨ad, A0, c0, e, hx, hl, hC⟩ := at_L1 (Kd.S_reads' h).2.2 (i : Int) (Int.natCast_nonneg i) (by omega)
 subst e
 obtain ⟨ce, hce, hMe, hcc⟩ := Kd.S_get h [] (i : Int) (Int.natCast_nonneg i) (by omega)
 obtain ⟨ve, rfl, ge⟩ := hMe
 have hv := hcc 0 _ rfl
 rw [Nat.add_zero, show ((Kd.slice 3 (Kd.int .i64))).sz = 1 from rfl, Nat.mul_one] at hv
 replace hv := Option.some.inj (hv.symm.trans hx)
 rw [hv] at ge
 have HL := (show Kd.R (Kd.int .i64) 3 _ _ _ _ (rd_L1 l (i : Int)) from ge)
 obtain ⟨go, co, eo, gb, gl, cl, HG⟩ := Kd.R_form HL (by omega)
 injection eo with ea en ec
 subst ea
 subst ec
 obtain ⟨hx2, hf2⟩ := Kd.R_celln 0 HL (rd p (i : Int)) k0 k1
 refine ⟨ad, go, c0, rfl, ⟨hx, hx2, hf2⟩, gb, (HL.1 go rfl).1, fun e_ => ?_⟩
 obtain ⟨cs2, t2⟩ := Kd.S_typed h ad.block rfl
 rw [e_, HG] at t2
 injection t2 with t2
 injection t2 with _ t3
 exact absurd t3 (by decide)
/-- The number written: the table is still the call's own. -/
theorem ent_put {W : World} {base : Nat} {ok : Nat → Prop} {ad : Addr} {n c go cc : Nat} {l : List (List Int)} (h : Kd.S (Kd.slice 3 (Kd.int .i64)) 24 W base ok (.slice (some ad) n c) l) {p : List Int} {i : Nat} (hok : pOk l p i = true) (hx : W.cell? (ad.add i) = some (.slice (some ⟨go, 0, none⟩) (rd_L1 l (i : Int)).length cc)) (x : Int) :
 Kd.S (Kd.slice 3 (Kd.int .i64)) 24 (W.setCell ⟨go, (rd p (i : Int)).toNat, none⟩ (.int .i64 x)) base ok (.slice (some ad) n c) (l.set i ((rd_L1 l (i : Int)).set (rd p (i : Int)).toNat x)) ∧ W.grownBy (W.setCell ⟨go, (rd p (i : Int)).toNat, none⟩ (.int .i64 x)) (some go) := by
 unfold pOk at hok
 rw [decide_eq_true_eq] at hok
 obtain ⟨hi, k0, k1⟩ := hok
 obtain rfl := (Kd.S_reads' h).1
 obtain ⟨oki, ce, hcl, hM, hcc, hoki, hbk⟩ := Kd.S_borrow h [] (i : Int) (Int.natCast_nonneg i) (by omega)
 obtain ⟨ve, rfl, ge⟩ := hM
 have hv := hcc 0 _ rfl
 rw [Nat.add_zero, show ((Kd.slice 3 (Kd.int .i64))).sz = 1 from rfl, Nat.mul_one] at hv
 replace hv := Option.some.inj (hv.symm.trans hx)
 subst hv
 have ge := (show Kd.R (Kd.int .i64) 3 _ _ _ _ (rd_L1 l (i : Int)) from ge)
 have HP := Kd.R_putg ge (rd p (i : Int)) x
 exact ⟨hbk HP.2 (fun k_ e_ => by injection e_ with e_; subst e_; exact ge.1 _ rfl) (Kd.M_row HP.1), HP.2⟩
/-- The first row of a row of rows. -/
theorem first_row {W : World} {base : Nat} {ok : Nat → Prop} {A : Option Addr} {n c : Nat} {q : List (List Int)} (h : Kd.N (Kd.slice 3 (Kd.int .i64)) 24 W base ok (.slice A n c) q) (hq : 0 < q.length) :
 ∃ (ad : Addr) (Ap : Option Addr) (cp : Nat), A = some ad ∧ W.cell? ad = some (.slice Ap (rd_L1 q 0).length cp) ∧ Kd.V (Kd.int .i64) 3 W base ok (.slice Ap (rd_L1 q 0).length cp) (rd_L1 q 0) := by
 obtain rfl := (Kd.N_reads' h).1
 obtain ⟨ad, A0, c0, e, hx, hl, hC⟩ := at_L1 (Kd.N_reads' h).2.2 0 (Int.le_refl 0) (by omega)
 subst e
 obtain ⟨cs, hcl, hFK, hcc⟩ := Kd.N_get h [] 0 (Int.le_refl 0) (by omega)
 obtain ⟨A1, c1, rfl, hl1, hF⟩ := Kd.FK_slice_open hFK
 have hv := hcc 0 _ rfl
 rw [Nat.add_zero, show ((Kd.slice 3 (Kd.int .i64))).sz = 1 from rfl, Nat.mul_one] at hv
 have e := Option.some.inj (hv.symm.trans hx)
 injection e with ea en ec
 subst ea
 subst ec
 rw [show ((0 : Int)).toNat = 0 from rfl, Addr.add_zero'] at hx
 exact ⟨ad, A1, c1, rfl, hx, ⟨A1, c1, rfl, hl1, Kd.F_mono hF (fun _ hk => hk.1)⟩⟩
theorem pOk_iff {l : List (List Int)} {p : List Int} {i : Nat} : pOk l p i = true ↔ i < l.length ∧ 0 ≤ rd p (i : Int) ∧ rd p (i : Int) < ((rd_L1 l (i : Int)).length : Int) := by
 unfold pOk
 rw [decide_eq_true_eq]
/-- The first row of the call's own table. -/
theorem row0_at {W : World} {base : Nat} {ok : Nat → Prop} {A : Option Addr} {n c : Nat} {l : List (List Int)} (h : Kd.S (Kd.slice 3 (Kd.int .i64)) 24 W base ok (.slice A n c) l) (hn : 0 < l.length) :
 ∃ (ad : Addr) (A0 : Option Addr) (c0 : Nat), A = some ad ∧ W.cell? ad = some (.slice A0 (rd_L1 l 0).length c0) ∧ (rd_L1 l 0).length ≤ c0 ∧ Kd.C (Kd.int .i64) W A0 (rd_L1 l 0).length (rd_L1 l 0) := by
 obtain rfl := (Kd.S_reads' h).1
 obtain ⟨ad, A0, c0, e, hx, hl, hC⟩ := at_L1 (Kd.S_reads' h).2.2 0 (Int.le_refl 0) (by omega)
 rw [show ((0 : Int)).toNat = 0 from rfl, Addr.add_zero'] at hx
 exact ⟨ad, A0, c0, e, hx, hl, hC⟩
end Go.Proofs.Ytkhpojcplejdjaa.A

/- A call of a function value in a plain region, as an arm of a walk. -/
namespace Go.Proofs.Ytkhpojcplejdjaa.A
open Go.RowKit Go.Proofs.YtkhpojcplejdjaaW.PrintWords Go.Proofs.YtkhpojcplejdjaaW.PrintLast Go.Proofs.YtkhpojcplejdjaaW.PrintMore
attribute [local go_sem] max2_int min2_int max_two min_two max_three min_three max_four min_four
set_option linter.unusedVariables false
set_option linter.unusedSimpArgs false

theorem goesF_ {P : Program} {ops : Array Oper} {Q : Exit → Act → World → Prop} {rest : List Oper} {oi : Oper} {a : Act} {w : World} (N : Option Tmp) (hd : oi.dst = N) (hg : oi.guard = none) (t : Tmp) (g : Nat) (lb : Array Value) {xs : Array Operand} {ts : Array TypeId} (eg : ∀ args w, (callFunc g args).run P w = .ok (.enter g args) w) (args : Array Value)
 (hop : oi.op = .call { callee := .value (.tmp t), args := xs, argTypes := ts }) (hf : a.eval (.tmp t) = .func (.func g) #[] lb) (hargs : xs.map a.eval = args)
 (h : Calls P g (args ++ lb) w fun e w' => ∃ v, e = .returned v ∧ wpList P ops Q rest (a.put N v) w') : wpList P ops Q (oi :: rest) a w := by
 refine wpList_plain hg fun K hK => ?_
 have hrun : (execOp a.eval oi).run P w = .ok (.enter g (args ++ lb)) w := by
  have he := eg (args ++ lb) w
  unfold execOp
  simp only [hop, resolve, hf, Deferred.ofValue, hargs]
  simpa [invoke] using he
 unfold Oper.wp
 rw [hrun, Oper.upon_enter]
 refine h.mono fun e w'' hh => ?_
 obtain ⟨v, rfl, hk⟩ := hh
 subst hd
 exact hK _ _ hk
theorem gateS_ {P : Program} {ops : Array Oper} {Q : Exit → Act → World → Prop} {oi : Oper} {a : Act} {w : World} {K : Act → World → Prop} {E : Prop} (N : Tmp) (_hN : oi.dst = some N) (h : if Region.wanted oi (yielded ops a.tmps) = true then Oper.wp P oi a w K Q else E) : if Region.wanted oi (yielded ops a.tmps) = true then Oper.wp P oi a w K Q else E := h
/-- The same as a step of a region that draws its order. -/
theorem goesFS_ {P : Program} {ops : Array Oper} {Q : Exit → Act → World → Prop} {oi : Oper} {a : Act} {w : World} {K : Act → World → Prop} (N : Option Tmp) (t : Tmp) (g : Nat) (lb : Array Value) {xs : Array Operand} {ts : Array TypeId} (eg : ∀ args w, (callFunc g args).run P w = .ok (.enter g args) w) (args : Array Value)
 (hw : Region.wanted oi (yielded ops a.tmps) = true) (hN : oi.dst = N) (hop : oi.op = .call { callee := .value (.tmp t), args := xs, argTypes := ts }) (hf : a.eval (.tmp t) = .func (.func g) #[] lb) (hargs : xs.map a.eval = args)
 (h : Calls P g (args ++ lb) w fun e w' => ∃ v, e = .returned v ∧ K (a.put N v) w') : if Region.wanted oi (yielded ops a.tmps) = true then Oper.wp P oi a w K Q else K (a.put N undef) w := by
 refine call_ g (args ++ lb) hw hN ?_ h
 have he := eg (args ++ lb) w
 unfold execOp
 simp only [hop, resolve, hf, Deferred.ofValue, hargs]
 simpa [invoke] using he
end Go.Proofs.Ytkhpojcplejdjaa.A

/- square: a table by row and column; the function value is called for each place. -/
namespace Go.Proofs.Ytkhpojcplejdjaa.A
open Go.RowKit Go.Proofs.YtkhpojcplejdjaaW.PrintWords Go.Proofs.YtkhpojcplejdjaaW.PrintLast Go.Proofs.YtkhpojcplejdjaaW.PrintMore
attribute [local go_sem] max2_int min2_int max_two min_two max_three min_three max_four min_four
set_option linter.unusedVariables false
set_option linter.unusedSimpArgs false

mutual
def impl_square.l0 (F : Int → Int → Option Int) : Nat → Int → List (List Int) → Int → Int → Option ((List (List Int)))
 | 0, _, _, _, _ => none
 | k + 1, x0, x5, x10, x11 => if x11 < x10 then (impl_square.l1 F k x0 x5 x11 (([] : List Int)) x10 x11 x0 0) else (some x5)
def impl_square.l1 (F : Int → Int → Option Int) : Nat → Int → List (List Int) → Int → List Int → Int → Int → Int → Int → Option ((List (List Int)))
 | 0, _, _, _, _, _, _, _, _ => none
 | k + 1, x0, x5, x6, x7, x10, x11, x15, x16 => if x16 < x15 then ((F x6 x16).bind fun t203 => (if x7.length < 17592186044416 then (impl_square.l1 F k x0 x5 x6 (x7 ++ [t203]) x10 x11 x15 (wrap64 (x16 + 1))) else (none))) else (if x5.length < 5864062014805 then (impl_square.l0 F k x0 (x5 ++ [x7]) x10 (wrap64 (x11 + 1))) else (none))
end
def impl_square.f (F : Int → Int → Option Int) (k : Nat) (a0 : Int) : Option ((List (List Int))) := impl_square.l0 F k a0 (([] : List (List Int))) a0 0
set_option maxHeartbeats 8000000 in
set_option maxRecDepth 100000 in
theorem impl_square.calls (F : Int → Int → Option Int) (g : Nat) (lb : Array Value) (eg : ∀ args w, (callFunc g args).run Try.prog w = .ok (.enter g args) w) (k : Nat) (a0 : Int) (r : List (List Int)) (w : World) (hF : ∀ (i j t : Int) (W : World), F i j = some t → Below w.heap.size w W → Calls Try.prog g (#[.int .i64 i, .int .i64 j] ++ lb) W fun e w' => e = .returned (.int .i64 t) ∧ Below W.heap.size W w') (h : impl_square.f F k a0 = some r) :
 Calls Try.prog 49 #[.int .i64 a0, .func (.func g) #[] lb] w fun e w' => ∃ v0_ : Value, e = .returned (v0_) ∧ Kd.S (Kd.slice 3 (Kd.int .i64)) 24 w' w.heap.size (fun _ => True) v0_ r ∧ Below w.heap.size w w' := by
 have HF := Aside0.mk hF
 have EG := Aside0.mk eg
 clear hF eg
 have HB := Aside0.mk (Below.refl w.heap.size w)
 have H : (impl_square.l0 F k a0 (([] : List (List Int))) a0 0) = some r := h
 clear h
 obtain ⟨y197, hy197⟩ : ∃ y_ : List (List Int), y_ = (([] : List (List Int))) := ⟨_, rfl⟩
 replace H : (impl_square.l0 F k a0 y197 a0 0) = some r := by first | (rw [hy197]; with_reducible exact H) | (have H2_ := (Option.bind_some _ _).symm.trans H; rw [hy197]; with_reducible exact H2_) | (have H2_ := (Option.bind_some _ _).symm.trans H; with_reducible exact H2_) | with_reducible exact H | (rw [hy197]; exact H) | exact H
 have Ny197 := Aside0.mk hy197
 clear hy197
 have H' := Aside0.mk H
 clear H
 go_enter Try.func49, Try.ntmps49
 go_wp2_with (first | ((with_reducible refine gate_dst (N := 9) rfl ?_); refine Kd.S_lit (Kd.slice 3 (Kd.int .i64)) _ 24 ?hg (N := 9) ?hd (xs := ([] : List (List Int))) (inner := []) (ok := fun _ => True) (okp := fun _ => True) ?hr ?hp (fun _ hk => hk) trivial (Below.refl _ _) (Nat.le_refl _) (by simp) ?_; (case hd => rfl); (case hg => rfl); (case hr => first | (go_simp; done) | (go_simp; rfl)); (case hp => exact (Reps.none _ _)); intro v198 w3 ho4 hb hg_ hnew_; clear hg_ hnew_; (first | rw [← Ny197.out] at ho4 | (simp only [Int.reduceToNat] at ho4; rw [← Ny197.out] at ho4)); have n0_ := Aside0.mk (Kd.S_lower ho4 (below_size (by repeat (first | (with_reducible first | exact HB.out | apply below_alloc | apply pw_below_drewN | apply below_drew1) | exact HB.out)))); have n1_ := Aside0.mk (below_step (by repeat (first | (with_reducible first | exact HB.out | apply below_alloc | apply pw_below_drewN | apply below_drew1) | exact HB.out)) hb); clear HB; have HO199 := n0_; have HB := n1_; clear n0_ n1_; clear hb ho4))
 go_loopg [5, 11] k (fun kq v5 v11 w' => ∃ (x5_1 : List (List Int)) (x11_1 : Int), v11 = .int .i64 x11_1 ∧ Aside0 (impl_square.l0 F kq a0 x5_1 a0 x11_1 = some r) ∧ Aside0 (kq ≤ k) ∧ Aside0 (Kd.S (Kd.slice 3 (Kd.int .i64)) 24 w' w.heap.size (fun _ => True) v5 x5_1) ∧ Aside0 (Below w.heap.size w w'))
 case atStart => exact ⟨(y197), (0), (by first | rfl | (simp; done) | (simp [*]; done)), H', ⟨Nat.le_refl _⟩, ⟨by (with_reducible repeat (first | apply Kd.S_alloc | apply Kd.S_drewN | apply Kd.S_drew)); exact HO199.out⟩, ⟨by repeat (first | (with_reducible first | exact HB.out | apply below_alloc | apply pw_below_drewN | apply below_drew1) | exact HB.out)⟩⟩
 case round =>
  clear H'
  try clear p2
  try clear c4
  obtain ⟨x5_1, x11_1, rfl, HA, HK1, HO_5, HB⟩ := hrel
  cases gk with
  | zero => exact absurd HA.out (by simp [impl_square.l0])
  | succ k1 =>
   have H := HA.out
   clear HA
   simp only [impl_square.l0] at H
   by_cases c5 : x11_1 < a0
   · rw [if_pos c5] at H
     have c5b0 : decide (x11_1 < a0) = true := decide_eq_true c5
     clear c5
     obtain ⟨y200, hy200⟩ : ∃ y_ : List Int, y_ = (([] : List Int)) := ⟨_, rfl⟩
     replace H : (impl_square.l1 F k1 a0 x5_1 x11_1 y200 a0 x11_1 a0 0) = some r := by first | (rw [hy200]; with_reducible exact H) | (have H2_ := (Option.bind_some _ _).symm.trans H; rw [hy200]; with_reducible exact H2_) | (have H2_ := (Option.bind_some _ _).symm.trans H; with_reducible exact H2_) | with_reducible exact H | (rw [hy200]; exact H) | exact H
     have Ny200 := Aside0.mk hy200
     clear hy200
     have H' := Aside0.mk H
     clear H
     go_wp2_with (first | ((with_reducible refine gate_dst (N := 14) rfl ?_); refine Kd.R_lit (Kd.int .i64) _ 3 ?hg (N := 14) ?hd (xs := ([] : List Int)) (inner := []) (ok := fun _ => True) (okp := fun _ => True) ?hr ?hp (fun _ hk => hk) trivial (Below.refl _ _) (Nat.le_refl _) (by simp) ?_; (case hd => rfl); (case hg => rfl); (case hr => first | (go_simp; done) | (go_simp; rfl)); (case hp => exact (Reps.none _ _)); intro v201 w6 ho7 hb hg_ hnew_; clear hg_ hnew_; (first | rw [← Ny200.out] at ho7 | (simp only [Int.reduceToNat] at ho7; rw [← Ny200.out] at ho7)); have n0_ := Aside0.mk (Kd.S_elder' (by (with_reducible repeat (first | apply Kd.S_alloc | apply Kd.S_drewN | apply Kd.S_drew)); exact HO_5.out) (Kd.R_base ho7) hb); have n1_ := Aside0.mk (Kd.R_lower ho7 (below_size (by repeat (first | (with_reducible first | exact HB.out | apply below_alloc | apply pw_below_drewN | apply below_drew1) | exact HB.out)))); have n2_ := Aside0.mk (below_step (by repeat (first | (with_reducible first | exact HB.out | apply below_alloc | apply pw_below_drewN | apply below_drew1) | exact HB.out)) hb); clear HO_5; clear HB; have HO_5 := n0_; have HO202 := n1_; have HB := n2_; clear n0_ n1_ n2_; clear hb ho7))
     go_loopg [7, 16] k1 (fun kq v7 v16 w' => ∃ (x7_2 : List Int) (x16_2 : Int), v16 = .int .i64 x16_2 ∧ Aside0 (impl_square.l1 F kq a0 x5_1 x11_1 x7_2 a0 x11_1 a0 x16_2 = some r) ∧ Aside0 (kq ≤ k1) ∧ Aside0 (Kd.S (Kd.slice 3 (Kd.int .i64)) 24 w' w.heap.size (fun k_ => some k_ ≠ (v7 : Value).ownBlock) u5 x5_1) ∧ Aside0 (Kd.R (Kd.int .i64) 3 w' w.heap.size (fun _ => True) v7 x7_2) ∧ Aside0 (Below w.heap.size w w'))
     case atStart => exact ⟨(y200), (0), (by first | rfl | (simp; done) | (simp [*]; done)), H', ⟨Nat.le_refl _⟩, ⟨by (with_reducible repeat (first | apply Kd.S_alloc | apply Kd.S_drewN | apply Kd.S_drew)); exact Kd.S_mono HO_5.out (fun _ hk => hk.2)⟩, ⟨by (with_reducible repeat (first | apply Kd.R_alloc | apply Kd.R_drewN | apply Kd.R_drew)); exact HO202.out⟩, ⟨by repeat (first | (with_reducible first | exact HB.out | apply below_alloc | apply pw_below_drewN | apply below_drew1) | exact HB.out)⟩⟩
     case round =>
      clear H'
      try clear p2
      try clear c4
      try clear c5
      try clear c5b0
      try clear p2
      obtain ⟨x7_2, x16_2, rfl, HA, HK2, HO_5, HO_7, HB⟩ := hrel
      cases gk with
      | zero => exact absurd HA.out (by simp [impl_square.l1])
      | succ k2 =>
       have H := HA.out
       clear HA
       simp only [impl_square.l1] at H
       by_cases c8 : x16_2 < a0
       · rw [if_pos c8] at H
         have c8b0 : decide (x16_2 < a0) = true := decide_eq_true c8
         clear c8
         replace H := Option.bind_eq_some_iff.mp H
         obtain ⟨t203, A90, H⟩ := H
         replace H : (if x7_2.length < 17592186044416 then (impl_square.l1 F k2 a0 x5_1 x11_1 (x7_2 ++ [t203]) a0 x11_1 a0 (wrap64 (x16_2 + 1))) else (none)) = some r := H
         have A9 := Aside0.mk A90
         clear A90
         by_cases c10 : x7_2.length < 17592186044416
         · rw [if_pos c10] at H
           have LMc10 := Aside0.mk c10
           clear c10
           obtain ⟨y204, hy204⟩ : ∃ y_ : List Int, y_ = (x7_2 ++ [t203]) := ⟨_, rfl⟩
           replace H : (impl_square.l1 F k2 a0 x5_1 x11_1 y204 a0 x11_1 a0 (wrap64 (x16_2 + 1))) = some r := by first | (rw [hy204]; with_reducible exact H) | (have H2_ := (Option.bind_some _ _).symm.trans H; rw [hy204]; with_reducible exact H2_) | (have H2_ := (Option.bind_some _ _).symm.trans H; with_reducible exact H2_) | with_reducible exact H | (rw [hy204]; exact H) | exact H
           have Ny204 := Aside0.mk hy204
           clear hy204
           have H' := Aside0.mk H
           clear H
           go_wp2_with (first | ((with_reducible refine gate_dst (N := 23) rfl ?_); refine goesF_ (some 23) rfl rfl 20 g lb EG.out #[.int .i64 x11_1, .int .i64 x16_2] rfl rfl (by (try simp only [List.map_toArray, List.map_cons, List.map_nil]); first | done | rfl) ?_; (with_reducible refine (HF.out x11_1 x16_2 t203 _ A9.out ?side1).mono ?_); (case side1 => repeat (first | (with_reducible first | exact HB.out | apply below_alloc | apply pw_below_drewN | apply below_drew1) | exact HB.out)); rintro e w11 ⟨rfl, hb⟩; refine ⟨_, rfl, ?_⟩; have n0_ := Aside0.mk (Kd.S_below (by (with_reducible repeat (first | apply Kd.S_alloc | apply Kd.S_drewN | apply Kd.S_drew)); exact HO_5.out) hb); have n1_ := Aside0.mk (Kd.R_below (by (with_reducible repeat (first | apply Kd.R_alloc | apply Kd.R_drewN | apply Kd.R_drew)); exact HO_7.out) hb); have n2_ := Aside0.mk (below_step (by repeat (first | (with_reducible first | exact HB.out | apply below_alloc | apply pw_below_drewN | apply below_drew1) | exact HB.out)) hb); clear HO_5; clear HO_7; clear HB; have HO_5 := n0_; have HO_7 := n1_; have HB := n2_; clear n0_ n1_ n2_; (try clear hb); (try clear hb2); (try clear hk); (try clear hi)) | ((with_reducible refine gate_builtin (b := .append) (xs := #[.tmp 19, .tmp 24]) rfl ?_); at_builtin; refine Kd.R_append (Kd.int .i64) (w0 := w) w.heap.size rfl (.tmp 19) (.tmp 24) 24 3 (.int .i64 0) 8 rfl Try.underlying24 info3 rfl (by decide) (by omega) u7 x7_2 t203 [.int .i64 t203] (fun _ => True) (fun _ => False) rfl rfl ?aP (fun _ hk => hk.elim) ?aF ?aO ?aB ?aS ?aL ?_; (case aP => exact rfl); (case aB => exact (by repeat (first | (with_reducible first | exact HB.out | apply below_alloc | apply pw_below_drewN | apply below_drew1) | exact HB.out))); (case aF => exact (fun _ _ => trivial)); (case aO => exact (by (with_reducible repeat (first | apply Kd.R_alloc | apply Kd.R_drewN | apply Kd.R_drew)); exact HO_7.out)); (case aS => exact (below_size (by repeat (first | (with_reducible first | exact HB.out | apply below_alloc | apply pw_below_drewN | apply below_drew1) | exact HB.out)))); (case aL => have := LMc10.out; omega); intro v205 w12 ho hb hg hat; rw [← Ny204.out] at ho; have n0_ := Aside0.mk (Kd.S_after (ok := (fun _ => True)) (by (with_reducible repeat (first | apply Kd.S_alloc | apply Kd.S_drewN | apply Kd.S_drew)); exact Kd.S_mono HO_5.out (fun _ hk => ⟨trivial, hk⟩)) hg hat); have n1_ := Aside0.mk (hb); have n2_ := Aside0.mk (ho); clear HO_5; clear HB; clear HO_7; have HO_5 := n0_; have HB := n1_; have HO206 := n2_; clear n0_ n1_ n2_; clear ho hb hg hat))
           go_roundg k2
           case measure => have := HK1.out; have := HK2.out; omega
           case rel => exact ⟨(y204), (wrap64 (x16_2 + 1)), (by first | rfl | (simp; done) | (simp [*]; done)), H', ⟨by have := HK1.out; have := HK2.out; omega⟩, ⟨by (with_reducible repeat (first | apply Kd.S_alloc | apply Kd.S_drewN | apply Kd.S_drew)); exact Kd.S_mono HO_5.out (fun _ hk => hk.2)⟩, ⟨by (with_reducible repeat (first | apply Kd.R_alloc | apply Kd.R_drewN | apply Kd.R_drew)); exact HO206.out⟩, ⟨by repeat (first | (with_reducible first | exact HB.out | apply below_alloc | apply pw_below_drewN | apply below_drew1) | exact HB.out)⟩⟩
         · rw [if_neg c10] at H
           exact absurd H (by simp)
       · rw [if_neg c8] at H
         have c8b0 : decide (x16_2 < a0) = false := decide_eq_false c8
         clear c8
         by_cases c13 : x5_1.length < 5864062014805
         · rw [if_pos c13] at H
           have LMc13 := Aside0.mk c13
           clear c13
           obtain ⟨y207, hy207⟩ : ∃ y_ : List (List Int), y_ = (x5_1 ++ [x7_2]) := ⟨_, rfl⟩
           replace H : (impl_square.l0 F k2 a0 y207 a0 (wrap64 (x11_1 + 1))) = some r := by first | (rw [hy207]; with_reducible exact H) | (have H2_ := (Option.bind_some _ _).symm.trans H; rw [hy207]; with_reducible exact H2_) | (have H2_ := (Option.bind_some _ _).symm.trans H; with_reducible exact H2_) | with_reducible exact H | (rw [hy207]; exact H) | exact H
           have Ny207 := Aside0.mk hy207
           clear hy207
           have H' := Aside0.mk H
           clear H
           obtain ⟨Ao15, co15, eo15⟩ := Kd.R_slice HO_7.out
           subst eo15
           go_wp2_with (first | ((with_reducible refine gate_builtin (b := .append) (xs := #[.tmp 27, .tmp 29]) rfl ?_); at_builtin; refine Kd.S_append (Kd.slice 3 (Kd.int .i64)) (w0 := w) w.heap.size rfl (.tmp 27) (.tmp 29) 22 24 (.slice none 0 0) 24 rfl Try.underlying22 info24 rfl (by decide) (by omega) u5 x5_1 x7_2 [.slice Ao15 x7_2.length co15] (fun _ => True) (fun k_ => some k_ = (.slice Ao15 x7_2.length co15 : Value).ownBlock) rfl rfl ?aP (fun k_ hk_ => ((Kd.R_mono (ok' := fun k_ => ((fun _ => True)) k_ ∧ some k_ ≠ (u5 : Value).ownBlock) (Kd.R_apart' (HO_7.out) (Kd.S_typed HO_5.out) (by decide)) (fun k_ hk => ⟨trivial, hk.2⟩))).1 k_ hk_.symm) ?aF ?aO ?aB ?aS ?aL ?_; (case aP => exact Kd.M_row (Kd.R_mono (Kd.R_tight rfl (Kd.R_mono (ok' := fun k_ => ((fun _ => True)) k_ ∧ some k_ ≠ (u5 : Value).ownBlock) (Kd.R_apart' (HO_7.out) (Kd.S_typed HO_5.out) (by decide)) (fun k_ hk => ⟨trivial, hk.2⟩))) (fun _ h_ => h_))); (case aB => exact (by repeat (first | (with_reducible first | exact HB.out | apply below_alloc | apply pw_below_drewN | apply below_drew1) | exact HB.out))); (case aF => exact (fun _ _ => trivial)); (case aO => exact (by (with_reducible repeat (first | apply Kd.S_alloc | apply Kd.S_drewN | apply Kd.S_drew)); exact Kd.S_mono HO_5.out (fun k_ hk => ⟨trivial, fun e_ => hk e_⟩))); (case aS => exact (below_size (by repeat (first | (with_reducible first | exact HB.out | apply below_alloc | apply pw_below_drewN | apply below_drew1) | exact HB.out)))); (case aL => have := LMc13.out; omega); intro v208 w14 ho hb hg hat; rw [← Ny207.out] at ho; have n0_ := Aside0.mk (hb); have n1_ := Aside0.mk (ho); clear HB; clear HO_5; clear HO_7; have HB := n0_; have HO209 := n1_; clear n0_ n1_; clear ho hb hg hat))
           go_roundg k2
           case measure => have := HK1.out; have := HK2.out; omega
           case rel => exact ⟨(y207), (wrap64 (x11_1 + 1)), (by first | rfl | (simp; done) | (simp [*]; done)), H', ⟨by have := HK1.out; have := HK2.out; omega⟩, ⟨by (with_reducible repeat (first | apply Kd.S_alloc | apply Kd.S_drewN | apply Kd.S_drew)); exact HO209.out⟩, ⟨by repeat (first | (with_reducible first | exact HB.out | apply below_alloc | apply pw_below_drewN | apply below_drew1) | exact HB.out)⟩⟩
         · rw [if_neg c13] at H
           exact absurd H (by simp)
   · rw [if_neg c5] at H
     have c5b0 : decide (x11_1 < a0) = false := decide_eq_false c5
     clear c5
     obtain rfl := Option.some.inj H
     go_wp2
     go_ret
     exact ⟨_, by first | rfl | (simp [errW_none, errW_some] <;> rfl) | (simp [*, errW_none, errW_some] <;> rfl), by (with_reducible repeat (first | apply Kd.S_alloc | apply Kd.S_drewN | apply Kd.S_drew)); exact HO_5.out, by repeat (first | (with_reducible first | exact HB.out | apply below_alloc | apply pw_below_drewN | apply below_drew1) | exact HB.out)⟩
end Go.Proofs.Ytkhpojcplejdjaa.A

/- Words on tables: two reads in line, a table that has been checked and is still the call's own. -/
namespace Go.Proofs.Ytkhpojcplejdjaa.A
open Go.RowKit Go.Proofs.YtkhpojcplejdjaaW.PrintWords Go.Proofs.YtkhpojcplejdjaaW.PrintLast Go.Proofs.YtkhpojcplejdjaaW.PrintMore
attribute [local go_sem] max2_int min2_int max_two min_two max_three min_three max_four min_four
set_option linter.unusedVariables false
set_option linter.unusedSimpArgs false

theorem tab_bx {W W' : World} {B : Nat} {v : Value} (hb : Below W.heap.size W W') (h : W.cell? ⟨B, 0, none⟩ = some v) (hB : B < W.heap.size) : W'.cell? ⟨B, 0, none⟩ = some v := (hb.cell (p := ⟨B, 0, none⟩) hB).trans h
theorem tab_at {W : World} {A : Option Addr} {l : List (List Int)} (h : Kd.C (Kd.slice 3 (Kd.int .i64)) W A l.length l) (i j : Int) (p : 0 ≤ i) (q : i < (l.length : Int)) (p' : 0 ≤ j) (q' : j < ((rd_L1 l i).length : Int)) : ∃ ad ad' c, A = some ad ∧ W.cell? (ad.add i.toNat) = some (.slice (some ad') (rd_L1 l i).length c) ∧ W.cell? (ad'.add j.toNat) = some (.int .i64 (rd (rd_L1 l i) j)) := by
 obtain ⟨ad, A0, c0, e, hx, _, hi⟩ := at_L1 h i p q
 obtain ⟨ad', e', hy⟩ := Kd.at_int hi j p' q'
 subst e'
 exact ⟨ad, ad', c0, e, hx, hy⟩
end Go.Proofs.Ytkhpojcplejdjaa.A

-- made by a program of this repo (wip/pp.py) through the kit's printer
namespace Go.Proofs.Ytkhpojcplejdjaa.A
open Go.RowKit Go.Proofs.YtkhpojcplejdjaaW.PrintWords Go.Proofs.YtkhpojcplejdjaaW.PrintLast Go.Proofs.YtkhpojcplejdjaaW.PrintMore
attribute [local go_sem] max2_int min2_int max_two min_two max_three min_three max_four min_four
set_option linter.unusedVariables false
set_option linter.unusedSimpArgs false

/-! ### slices_Index_int_int: function 113 -/
def slices_Index_int_int.l0 : Nat → List Int → Int → Int → Int → Option (Int)
 | 0, _, _, _, _ => none
 | k + 1, x0, x1, x7, x8 => if x8 < x7 then (if 0 ≤ x8 then (if x8 < (x0.length : Int) then (if x1 = (rd x0 x8) then (some x8) else (slices_Index_int_int.l0 k x0 x1 x7 (wrap64 (x8 + 1)))) else (none)) else (none)) else (some (-1))
def slices_Index_int_int.f (k : Nat) (l0 : List Int) (a1 : Int) : Option (Int) := slices_Index_int_int.l0 k l0 a1 (l0.length : Int) 0
set_option maxHeartbeats 8000000 in
set_option maxRecDepth 100000 in
theorem slices_Index_int_int.calls (k : Nat) (A0 : Option Addr) (c0 : Nat) (l0 : List Int) (a1 : Int) (r : Int) (w : World) (hr0 : Kd.C (Kd.int .i64) w A0 l0.length l0) (hc0 : l0.length ≤ c0) (h : slices_Index_int_int.f k l0 a1 = some r) :
 Calls Try.prog 113 #[.slice A0 l0.length c0, .int .i64 a1] w fun e w' => e = .returned (.int .i64 r) ∧ Drawn0 w w' := by
 have HR0 := Aside0.mk hr0
 have HC0 := Aside0.mk hc0
 clear hr0 hc0
 have H : (slices_Index_int_int.l0 k l0 a1 (l0.length : Int) 0) = some r := h
 clear h
 have H' := Aside0.mk H
 clear H
 go_enter Try.func113, Try.ntmps113
 go_wp2
 go_loopg [8] k (fun kq v8 w' => ∃ (x8_1 : Int), v8 = .int .i64 x8_1 ∧ Aside0 (slices_Index_int_int.l0 kq l0 a1 (l0.length : Int) x8_1 = some r) ∧ Aside0 (kq ≤ k) ∧ Drawn0 w w')
 case atStart => exact ⟨(0), (by first | rfl | (simp; done) | (simp [*]; done)), H', ⟨Nat.le_refl _⟩, by repeat (first | exact Drawn0.refl _ | apply Drawn0.step)⟩
 case round =>
  clear H'
  try clear c1
  try clear p2
  obtain ⟨x8_1, rfl, HA, HK1, ⟨m1, rfl⟩⟩ := hrel
  cases gk with
  | zero => exact absurd HA.out (by simp [slices_Index_int_int.l0])
  | succ k1 =>
   have H := HA.out
   clear HA
   simp only [slices_Index_int_int.l0] at H
   by_cases c3 : x8_1 < (l0.length : Int)
   · rw [if_pos c3] at H
     have c3b0 : decide (x8_1 < (l0.length : Int)) = true := decide_eq_true c3
     clear c3
     by_cases c4 : 0 ≤ x8_1
     · rw [if_pos c4] at H
       have c4b0 : decide (0 ≤ x8_1) = true := decide_eq_true c4
       clear c4
       by_cases c5 : x8_1 < (l0.length : Int)
       · rw [if_pos c5] at H
         have c5b0 : decide (x8_1 < (l0.length : Int)) = true := decide_eq_true c5
         clear c5
         by_cases c6 : a1 = (rd l0 x8_1)
         · rw [if_pos c6] at H
           have c6b0 : (a1 == (rd l0 x8_1)) = true := beq_iff_eq.mpr c6
           have c6b1 : (a1 != (rd l0 x8_1)) = false := bne_eq_false_iff_eq.mpr c6
           clear c6
           obtain rfl := Option.some.inj H
           have p855 : 0 ≤ (x8_1 : Int) := of_decide_eq_true (by first | (with_reducible assumption) | assumption)
           have q855 : x8_1 < (l0.length : Int) := of_decide_eq_true (by first | (with_reducible assumption) | assumption)
           obtain ⟨ad855, e855, hx855_0⟩ := Kd.at_int HR0.out x8_1 p855 q855
           cases e855
           replace p855 := eq_true p855
           replace q855 := eq_true q855
           go_wp2
           go_ret
           exact ⟨by first | rfl | (simp; done) | (simp [*]; done), by repeat (first | exact Drawn0.refl _ | apply Drawn0.step)⟩
         · rw [if_neg c6] at H
           have c6b0 : (a1 == (rd l0 x8_1)) = false := beq_eq_false_iff_ne.mpr c6
           have c6b1 : (a1 != (rd l0 x8_1)) = true := bne_iff_ne.mpr c6
           have H' := Aside0.mk H
           clear H
           have p855 : 0 ≤ (x8_1 : Int) := of_decide_eq_true (by first | (with_reducible assumption) | assumption)
           have q855 : x8_1 < (l0.length : Int) := of_decide_eq_true (by first | (with_reducible assumption) | assumption)
           obtain ⟨ad855, e855, hx855_0⟩ := Kd.at_int HR0.out x8_1 p855 q855
           cases e855
           replace p855 := eq_true p855
           replace q855 := eq_true q855
           go_wp2
           go_roundg k1
           case measure => have := HK1.out; omega
           case rel => exact ⟨(wrap64 (x8_1 + 1)), (by first | rfl | (simp; done) | (simp [*]; done)), H', ⟨by have := HK1.out; omega⟩, by repeat (first | exact Drawn0.refl _ | apply Drawn0.step)⟩
       · rw [if_neg c5] at H
         exact absurd H (by simp)
     · rw [if_neg c4] at H
       exact absurd H (by simp)
   · rw [if_neg c3] at H
     have c3b0 : decide (x8_1 < (l0.length : Int)) = false := decide_eq_false c3
     clear c3
     obtain rfl := Option.some.inj H
     go_wp2
     go_ret
     exact ⟨by first | rfl | (simp; done) | (simp [*]; done), by repeat (first | exact Drawn0.refl _ | apply Drawn0.step)⟩

end Go.Proofs.Ytkhpojcplejdjaa.A

-- made by a program of this repo (wip/pp.py) through the kit's printer
namespace Go.Proofs.Ytkhpojcplejdjaa.A
open Go.RowKit Go.Proofs.YtkhpojcplejdjaaW.PrintWords Go.Proofs.YtkhpojcplejdjaaW.PrintLast Go.Proofs.YtkhpojcplejdjaaW.PrintMore
attribute [local go_sem] max2_int min2_int max_two min_two max_three min_three max_four min_four
set_option linter.unusedVariables false
set_option linter.unusedSimpArgs false

/-! ### slices_Contains_int_int: function 102 -/
def slices_Contains_int_int.f (k : Nat) (l0 : List Int) (a1 : Int) : Option (Bool) := (slices_Index_int_int.f k l0 a1).bind fun t856 => (some (decide (t856 ≥ 0)))
set_option maxHeartbeats 8000000 in
set_option maxRecDepth 100000 in
theorem slices_Contains_int_int.calls (k : Nat) (A0 : Option Addr) (c0 : Nat) (l0 : List Int) (a1 : Int) (r : Bool) (w : World) (hr0 : Kd.C (Kd.int .i64) w A0 l0.length l0) (hc0 : l0.length ≤ c0) (h : slices_Contains_int_int.f k l0 a1 = some r) :
 Calls Try.prog 102 #[.slice A0 l0.length c0, .int .i64 a1] w fun e w' => e = .returned (.bool r) ∧ Drawn0 w w' := by
 have HR0 := Aside0.mk hr0
 have HC0 := Aside0.mk hc0
 clear hr0 hc0
 have H : ((slices_Index_int_int.f k l0 a1).bind fun t856 => (some (decide (t856 ≥ 0)))) = some r := h
 clear h
 replace H := Option.bind_eq_some_iff.mp H
 obtain ⟨t856, A30, H⟩ := H
 replace H : (some (decide (t856 ≥ 0))) = some r := H
 have A3 := Aside0.mk A30
 clear A30
 obtain rfl := Option.some.inj H
 go_enter Try.func102, Try.ntmps102
 go_wp2_with (first | ((with_reducible refine gate_callee (f := 113) rfl ?_); refine goesL_ (some 7) rfl rfl Try.func113 (by kernel_rfl) rfl #[.slice A0 l0.length c0, .int .i64 a1] rfl (by (try simp only [List.map_toArray, List.map_cons, List.map_nil]); first | done | rfl | (simp only [List.length_drop, List.length_take]; rfl)) ?_; (with_reducible refine (slices_Index_int_int.calls k _ _ l0 a1 t856 _ ?side1 ?side2 A3.out).mono ?_); (case side1 => repeat (first | exact HR0.out | (with_reducible refine Kd.C_alloc ?_ _) | (with_reducible refine Kd.C_drewN ?_ _) | (with_reducible refine Kd.C_drew ?_))); (case side2 => exact HC0.out); rintro e w' ⟨rfl, ⟨nd, rfl⟩⟩; refine ⟨_, rfl, ?_⟩))
 go_ret
 exact ⟨by first | rfl | (simp; done) | (simp [*]; done), by repeat (first | exact Drawn0.refl _ | apply Drawn0.step)⟩

end Go.Proofs.Ytkhpojcplejdjaa.A

/- slices.Clone at []int: a copy in memory of the call's own (the shelf's worked proof, turned to this claim). -/
namespace Go.Proofs.Ytkhpojcplejdjaa.A
open Go.RowKit Go.Proofs.YtkhpojcplejdjaaW.PrintWords Go.Proofs.YtkhpojcplejdjaaW.PrintLast Go.Proofs.YtkhpojcplejdjaaW.PrintMore
attribute [local go_sem] max2_int min2_int max_two min_two max_three min_three max_four min_four
set_option linter.unusedVariables false
set_option linter.unusedSimpArgs false

def slices_Clone_int_int.f (l0 : List Int) : Option (List Int) := if l0.length ≤ 17592186044416 then some l0 else none
set_option maxHeartbeats 2000000 in
set_option maxRecDepth 100000 in
theorem slices_Clone_int_int.calls (A0 : Option Addr) (c0 : Nat) (l0 : List Int) (r : List Int) (w : World) (hr0 : Kd.C (Kd.int .i64) w A0 l0.length l0) (hc0 : l0.length ≤ c0) (h : slices_Clone_int_int.f l0 = some r) :
 Calls Try.prog 107 #[.slice A0 l0.length c0] w fun e w' => ∃ v0_ : Value, e = .returned (v0_) ∧ Kd.R (Kd.int .i64) 3 w' w.heap.size (fun _ => True) v0_ r ∧ Below w.heap.size w w' := by
 have hl : l0.length ≤ 17592186044416 ∧ l0 = r := by
  unfold slices_Clone_int_int.f at h
  by_cases c : l0.length ≤ 17592186044416
  · rw [if_pos c] at h
    exact ⟨c, Option.some.inj h⟩
  · rw [if_neg c] at h
    cases h
 clear h
 obtain ⟨hl, rfl⟩ := hl
 have hn := (Kd.reads_of_C (d := (0 : Int)) (h1 := fun _ => rfl) hr0).2.2
 clear hr0
 have q := fun (w : World) (a : Option Addr) (n c n' c' : Nat) => Lib.run_eql_slice_nil (P := Try.prog) w 24 3 a n c n' c' Try.underlying24
 cases A0 with
 | none =>
  have e0 : l0 = [] := by
   cases l0 with
   | nil => rfl
   | cons x t =>
    obtain ⟨ad, e', _⟩ := hn (by simp)
    cases e'
  subst e0
  clear hn
  go_enter Try.func107, Try.ntmps107
  go_wp2
  go_ret
  exact ⟨_, rfl, Kd.R_nil _ _ _ _ _, Below.refl _ _⟩
 | some ad =>
  have HC : Aside0 (∀ j u, (encs (Value.int .i64) l0)[j]? = some u → w.cell? (ad.add j) = some u) := ⟨by
   intro j u hj
   have hjl : j < l0.length := by
    have := (List.getElem?_eq_some_iff.1 hj).1
    rwa [encs_length] at this
   obtain ⟨ad', e', hcell⟩ := hn (by omega)
   cases e'
   rw [encs_get (d := (0 : Int)) l0 j hjl] at hj
   injection hj with hj
   rw [← hj]
   exact hcell j hjl⟩
  clear hn
  obtain ⟨i0, hi, hzz⟩ := Option.map_eq_some_iff.1 info3
  simp only [Prod.mk.injEq] at hzz
  obtain ⟨hz0, hz1, hz2⟩ := hzz
  have Hl := Aside0.mk hl
  have Hc := Aside0.mk hc0
  clear hl hc0
  go_enter Try.func107, Try.ntmps107
  go_wp2_with (at_builtin; refine wpList_append_own _ rfl _ _ 24 rfl w.heap.size 3 i0 (.int .i64 0) 1 8 Try.underlying24 hi hz0 hz1 hz2 rfl (by decide) _ _ _ rfl (World.ownsRow_made w #[] 0 (Nat.le_refl _) (Nat.zero_le _) (by simp)) ad l0.length c0 (encs (Value.int .i64) l0) rfl ?qc1 ?qc2 ?qc3 ?qc4 ?qc5 ?qc6 ?_)
  case qc1 => rw [encs_length, Nat.mul_one]
  case qc2 =>
   intro j u hj
   exact Lib.cell?_alloc_some _ (HC.out j u hj)
  case qc3 =>
   intro u hu
   obtain ⟨x, _, rfl⟩ := List.mem_map.1 hu
   rfl
  case qc4 =>
   have := Hl.out
   unfold maxLen
   omega
  case qc5 =>
   have := Hl.out
   omega
  case qc6 => simp
  intro v' w1 hown hgrow hnil
  go_wp2
  go_ret
  refine ⟨v', rfl, ?_, ?_⟩
  · refine Kd.R_of_own ?_ (fun _ _ => trivial)
    simpa using hown
  · exact ((Below.refl _ w).alloc (Nat.le_refl _) _).grown hgrow (by simp) (by intro k hk; simp [Value.ownBlock] at hk; omega)
end Go.Proofs.Ytkhpojcplejdjaa.A

/- A world in which one elder block alone may have changed. -/
namespace Go.Proofs.Ytkhpojcplejdjaa.A
open Go.RowKit Go.Proofs.YtkhpojcplejdjaaW.PrintWords Go.Proofs.YtkhpojcplejdjaaW.PrintLast Go.Proofs.YtkhpojcplejdjaaW.PrintMore
attribute [local go_sem] max2_int min2_int max_two min_two max_three min_three max_four min_four
set_option linter.unusedVariables false
set_option linter.unusedSimpArgs false

def GB (w W : World) (g : Nat) : Prop := w.grownBy W (some g)
theorem gb_refl (w : World) (g : Nat) : GB w w g := World.grownBy.refl w _
theorem gb_keep {w W : World} {g : Nat} (h : GB w W g) : KeepBut w W g none := ⟨h.size, fun i hi hne _ => h.block i hi (by intro e; injection e with e; exact hne e)⟩
theorem gb_trans {w W W' : World} {g : Nat} (h : GB w W g) (k : GB W W' g) : GB w W' g := ⟨k.os.trans h.os, k.tape.trans h.tape, k.output.trans h.output, Nat.le_trans h.size k.size, fun i hi hne => (k.block i (Nat.lt_of_lt_of_le hi h.size) hne).trans (h.block i hi hne)⟩
theorem gb_below {W W' : World} {g : Nat} (h : Below W.heap.size W W') : GB W W' g := ⟨h.os, h.tape, h.output, h.size, fun i hi _ => h.block i hi⟩
theorem gb_drewN {W W' : World} {g : Nat} (h : GB W W' g) (m : Nat) : GB W (W'.drewN m) g := gb_trans h (gb_below (pw_below_drewN (Below.refl _ _) m))
theorem below_gb {w W W' : World} {g : Nat} (h : Below w.heap.size w W) (k : GB W W' g) (hg : w.heap.size ≤ g) : Below w.heap.size w W' := ⟨k.os.trans h.os, k.tape.trans h.tape, k.output.trans h.output, Nat.le_trans h.size k.size, fun i hi => (k.block i (Nat.lt_of_lt_of_le hi h.size) (by intro e; injection e with e; omega)).trans (h.block i hi)⟩
end Go.Proofs.Ytkhpojcplejdjaa.A

namespace Go.Proofs.Ytkhpojcplejdjaa.A
open Go.RowKit Go.Proofs.YtkhpojcplejdjaaW.PrintWords Go.Proofs.YtkhpojcplejdjaaW.PrintLast Go.Proofs.YtkhpojcplejdjaaW.PrintMore
set_option linter.unusedVariables false
set_option linter.unusedSimpArgs false
theorem slIndex_l (xs : List Int) (x : Int) (hx : xs.length ≤ 9223372036854775807) : ∀ (n i : Nat), i + n = xs.length → ∃ r, Ev (fun k => slices_Index_int_int.l0 k xs x (xs.length : Int) (i : Int)) r ∧ (0 ≤ r ↔ x ∈ xs.drop i)
 | 0, i, h => by
  refine ⟨-1, Ev.succ ?_, ?_⟩
  · simp only [slices_Index_int_int.l0, if_neg (show ¬ (i : Int) < (xs.length : Int) by omega)]
    exact Ev.now _
  · rw [List.drop_eq_nil_of_le (by omega)]
    simp
 | n + 1, i, h => by
  have hi : i < xs.length := by omega
  by_cases c : x = xs[i]
  · refine ⟨(i : Int), Ev.succ ?_, ?_⟩
    · simp only [slices_Index_int_int.l0, if_pos (show (i : Int) < (xs.length : Int) by omega), if_pos (show (0 : Int) ≤ (i : Int) by omega), rdn hi, if_pos c]
      exact Ev.now _
    · refine ⟨fun _ => ?_, fun _ => by omega⟩
      rw [List.drop_eq_getElem_cons hi, c]
      exact List.mem_cons_self
  · obtain ⟨r, h1, h2⟩ := slIndex_l xs x hx n (i + 1) (by omega)
    refine ⟨r, Ev.succ ?_, ?_⟩
    · simp only [slices_Index_int_int.l0, if_pos (show (i : Int) < (xs.length : Int) by omega), if_pos (show (0 : Int) ≤ (i : Int) by omega), rdn hi, if_neg c, wsucc hi hx]
      exact h1
    · rw [h2, List.drop_eq_getElem_cons hi, List.mem_cons]
      simp [c]
theorem slContains_ev (xs : List Int) (x : Int) (hx : xs.length ≤ 9223372036854775807) : Ev (fun k => slices_Contains_int_int.f k xs x) (decide (x ∈ xs)) := by
 obtain ⟨r, h1, h2⟩ := slIndex_l xs x hx xs.length 0 (by omega)
 rw [List.drop_zero] at h2
 unfold slices_Contains_int_int.f slices_Index_int_int.f
 have h3 : decide (x ∈ xs) = decide (r ≥ 0) := by
  rw [Bool.eq_iff_iff]
  simp only [decide_eq_true_eq]
  exact ⟨fun h => h2.2 h, fun h => h2.1 h⟩
 rw [h3]
 exact Ev.bind h1 (Ev.now _)
end Go.Proofs.Ytkhpojcplejdjaa.A

/- placings: all placings in a table, in order; what a visiting function does to one cell is told by a step. -/
namespace Go.Proofs.Ytkhpojcplejdjaa.A
open Go.RowKit Go.Proofs.YtkhpojcplejdjaaW.PrintWords Go.Proofs.YtkhpojcplejdjaaW.PrintLast Go.Proofs.YtkhpojcplejdjaaW.PrintMore
attribute [local go_sem] max2_int min2_int max_two min_two max_three min_three max_four min_four
set_option linter.unusedVariables false
set_option linter.unusedSimpArgs false

def loopB {σ : Type} (f : σ → Nat → σ × Bool) : List Nat → σ → σ × Bool
 | [], s => (s, true)
 | j :: js, s => if (f s j).2 = true then loopB f js (f s j).1 else ((f s j).1, false)
def dfs {σ : Type} (l : List (List Int)) (step : σ → List Int → σ × Bool) : Nat → σ → List Int → σ × Bool
 | 0, s, p => step s p
 | m + 1, s, p => loopB (fun s j => if rd (rd_L1 l (p.length : Int)) (j : Int) > 0 then (if (j : Int) ∈ p then (s, true) else dfs l step m s (p ++ [(j : Int)])) else (s, true)) (List.range (rd_L1 l (p.length : Int)).length) s
theorem loopB_at {σ : Type} (f : σ → Nat → σ × Bool) (s : σ) {n i : Nat} (h : i < n) : loopB f ((List.range n).drop i) s = if (f s i).2 = true then loopB f ((List.range n).drop (i + 1)) (f s i).1 else ((f s i).1, false) := by
 rw [List.drop_eq_getElem_cons (by simpa using h)]
 simp [loopB]
theorem loopB_end {σ : Type} (f : σ → Nat → σ × Bool) (s : σ) (n : Nat) : loopB f ((List.range n).drop n) s = (s, true) := by
 rw [List.drop_eq_nil_of_le (by simp)]
 rfl
theorem pkeep_cell {W W' : World} {g B : Nat} {v : Value} (h : KeepBut W W' g none) (hc : W.cell? ⟨B, 0, none⟩ = some v) (hB : B ≠ g) : W'.cell? ⟨B, 0, none⟩ = some v := by
 have hlt := World.block_lt_of_cell? W _ hc
 have := h.2 B hlt hB (by simp)
 unfold World.cell? at hc ⊢
 simp only at hc ⊢
 rw [this]
 exact hc
theorem alloc_bx {W : World} {B : Nat} {v : Value} (o : Obj) (h : W.cell? ⟨B, 0, none⟩ = some v) : (W.alloc o).cell? ⟨B, 0, none⟩ = some v := tab_bx (below_alloc (Below.refl _ W) o) h (World.block_lt_of_cell? W _ h)
theorem alloc_new_at (W : World) (c : Value) (t : TypeId) : (W.alloc (.cells #[c] t)).cell? ⟨W.heap.size, 0, none⟩ = some c := by simp
theorem row_foot {w0 : World} {g : Nat} {A0 : Option Addr} {l0 : List (List Int)} (hT : ∀ W', KeepBut w0 W' g none → Kd.C (Kd.slice 3 (Kd.int .i64)) W' A0 l0.length l0) (i : Int) (h0 : 0 ≤ i) (h1 : i < (l0.length : Int)) :
 ∃ ad Ar cr, A0 = some ad ∧ (rd_L1 l0 i).length ≤ cr ∧ ∀ W', KeepBut w0 W' g none → W'.cell? (ad.add i.toNat) = some (.slice Ar (rd_L1 l0 i).length cr) ∧ Kd.C (Kd.int .i64) W' Ar (rd_L1 l0 i).length (rd_L1 l0 i) := by
 obtain ⟨ad, Ar, cr, rfl, hx, hl, hi⟩ := at_L1 (hT w0 (KeepBut.refl w0 g none)) i h0 h1
 refine ⟨ad, Ar, cr, rfl, hl, fun W' hk => ?_⟩
 have hne : ad.block ≠ g := Kd.foot_ne hT (by omega) (by decide)
 have hc : W'.cell? (ad.add i.toNat) = some (.slice Ar (rd_L1 l0 i).length cr) := keep_cell hk hx (by rw [add_block]; exact hne)
 refine ⟨hc, ?_⟩
 obtain ⟨ad', Ar', cr', e, hx', hl', hi'⟩ := at_L1 (hT W' hk) i h0 h1
 injection e with e
 subst e
 rw [hc] at hx'
 injection hx' with hx'
 injection hx' with e1 e2 e3
 subst e1
 exact hi'
theorem one_row {W : World} {a : Addr} {x : Int} (h : W.cell? a = some (.int .i64 x)) : ReadsRow (fun (x : Int) (cs : List Value) => cs = [.int .i64 x]) 1 W (some a) 1 [x] := ⟨rfl, by decide, fun _ => ⟨a, rfl, fun j p hj => by
 have hj0 : j = 0 := by
  have := (List.getElem?_eq_some_iff.1 hj).1
  simpa using this
 subst hj0
 simp at hj
 subst hj
 exact ⟨[.int .i64 x], rfl, rfl, fun i u hu => by
  match i with
  | 0 =>
   simp at hu
   subst hu
   rw [Nat.zero_mul, Nat.zero_add, Addr.add_zero']
   exact h
  | i + 1 => simp at hu⟩⟩⟩
set_option maxHeartbeats 8000000 in
set_option maxRecDepth 100000 in
theorem place_calls {σ : Type} (l0 : List (List Int)) (A0 : Option Addr) (c0 : Nat) (w0 : World) (g : Nat) (Inv : σ → World → Prop) (step : σ → List Int → σ × Bool) (fv : Nat) (lb : Array Value) (B0 Bv Bp : Nat) (hg : g < w0.heap.size) (hl0 : l0.length ≤ 1000) (hrl : ∀ x ∈ l0, x.length ≤ 1000)
 (eg : ∀ args w, (callFunc fv args).run Try.prog w = .ok (.enter fv args) w)
 (hT : ∀ W', KeepBut w0 W' g none → Kd.C (Kd.slice 3 (Kd.int .i64)) W' A0 l0.length l0)
 (hb0 : w0.cell? ⟨B0, 0, none⟩ = some (.slice A0 l0.length c0)) (nb0 : B0 ≠ g) (hbv : w0.cell? ⟨Bv, 0, none⟩ = some (.func (.func fv) #[] lb)) (nbv : Bv ≠ g) (hbp : w0.cell? ⟨Bp, 0, none⟩ = some (.func (.func 112) #[] #[.pointer (some ⟨B0, 0, none⟩), .pointer (some ⟨Bv, 0, none⟩), .pointer (some ⟨Bp, 0, none⟩)])) (nbp : Bp ≠ g)
 (hI : ∀ s W W', Below W.heap.size W W' → Inv s W → Inv s W')
 (hv : ∀ s p v W, GB w0 W g → Inv s W → p.length = l0.length → Kd.R (Kd.int .i64) 3 W w0.heap.size (fun _ => True) v p → Calls Try.prog fv (#[v] ++ lb) W fun e w' => e = .returned (.bool (step s p).2) ∧ GB W w' g ∧ Inv (step s p).1 w') :
 ∀ (m : Nat) (s : σ) (p : List Int) (v : Value) (W : World), p.length + m = l0.length → GB w0 W g → Inv s W → Kd.R (Kd.int .i64) 3 W w0.heap.size (fun _ => True) v p →
  Calls Try.prog 112 #[v, .pointer (some ⟨B0, 0, none⟩), .pointer (some ⟨Bv, 0, none⟩), .pointer (some ⟨Bp, 0, none⟩)] W fun e w' => e = .returned (.bool (dfs l0 step m s p).2) ∧ GB W w' g ∧ Inv (dfs l0 step m s p).1 w' := by
 have HV := Aside0.mk hv
 have EGP := Aside0.mk (show ∀ args w, (callFunc 112 args).run Try.prog w = .ok (.enter 112 args) w from fun args w => enters_ Try.func112 (by kernel_rfl) rfl args w)
 have HT := Aside0.mk hT
 have EG := Aside0.mk eg
 have HI := Aside0.mk hI
 have HB0 := Aside0.mk hb0
 have HBV := Aside0.mk hbv
 have HBP := Aside0.mk hbp
 have HRL := Aside0.mk hrl
 clear hv hT eg hI hb0 hbv hbp hrl
 intro m
 induction m with
 | zero =>
  intro s p v W hm hk hi hR
  obtain ⟨Ap, cp, rfl⟩ := Kd.R_slice hR
  have x0 := pkeep_cell (gb_keep hk) HB0.out nb0
  have x1 := pkeep_cell (gb_keep hk) HBV.out nbv
  have HK := Aside0.mk hk
  have HN := Aside0.mk hi
  have HR := Aside0.mk hR
  have e0 : ((p.length : Int) == (l0.length : Int)) = true := beq_iff_eq.mpr (by omega)
  have HM := Aside0.mk (show p.length = l0.length by omega)
  clear hm hk hi hR
  go_enter Try.func112, Try.ntmps112
  go_wp2_with (first | ((with_reducible refine gate_dst (N := 17) rfl ?_); refine goesF_ (some 17) rfl rfl 15 fv lb EG.out #[.slice Ap p.length cp] rfl rfl (by (try simp only [List.map_toArray, List.map_cons, List.map_nil]); first | done | rfl) ?_; (with_reducible refine (HV.out s p _ W HK.out HN.out HM.out HR.out).mono ?_); rintro e w1 ⟨rfl, hk1, hi1⟩; refine ⟨_, rfl, ?_⟩; have HK1 := Aside0.mk hk1; have HI1 := Aside0.mk hi1; clear hk1 hi1))
  go_ret
  exact ⟨rfl, HK1.out, HI1.out⟩
 | succ m ih =>
  intro s p v W hm hk hi hR
  obtain ⟨Ap, cp, rfl⟩ := Kd.R_slice hR
  have HIH := Aside0.mk ih
  clear ih
  obtain ⟨ad, Ar, cr, rfl, hcr, hrow⟩ := row_foot HT.out (p.length : Int) (by omega) (by omega)
  have x0 := pkeep_cell (gb_keep hk) HB0.out nb0
  have x1 := (hrow W (gb_keep hk)).1
  rw [Int.toNat_natCast] at x1
  have HROW := Aside0.mk hrow
  have HK := Aside0.mk hk
  have HN := Aside0.mk hi
  have HR := Aside0.mk hR
  have e0 : ((p.length : Int) == (l0.length : Int)) = false := beq_eq_false_iff_ne.mpr (by omega)
  have p0 : (0 ≤ (p.length : Int)) = True := eq_true (by omega)
  have p1 : ((p.length : Int) < (l0.length : Int)) = True := eq_true (by omega)
  have HM := Aside0.mk hm
  have HCR := Aside0.mk hcr
  obtain ⟨f, hf⟩ : ∃ f : σ → Nat → σ × Bool, f = fun (s : σ) (j : Nat) => if rd (rd_L1 l0 (p.length : Int)) (j : Int) > 0 then (if (j : Int) ∈ p then (s, true) else dfs l0 step m s (p ++ [(j : Int)])) else (s, true) := ⟨_, rfl⟩
  have hd : dfs l0 step (m + 1) s p = loopB f (List.range (rd_L1 l0 (p.length : Int)).length) s := by rw [hf]; rfl
  rw [hd]
  have HF := Aside0.mk hf
  have hrl2 : (rd_L1 l0 (p.length : Int)).length ≤ 1000 := by
   have hlt : p.length < l0.length := by omega
   unfold rd_L1
   rw [Int.toNat_natCast, List.getD_eq_getElem?_getD, List.getElem?_eq_getElem hlt]
   exact HRL.out _ (List.getElem_mem hlt)
  clear hm hk hi hR hrow hcr hf hd
  generalize rd_L1 l0 (p.length : Int) = row at *
  obtain ⟨R, hR⟩ : ∃ R, R = loopB f (List.range row.length) s := ⟨_, rfl⟩
  rw [← hR]
  obtain ⟨rs, rb⟩ := R
  have HL := Aside0.mk hR.symm
  clear hR
  go_enter Try.func112, Try.ntmps112
  go_wp2
  go_loopg [23] row.length (fun gg v23 wr => ∃ (j : Nat) (s' : σ), v23 = .int .i64 (j : Int) ∧ j ≤ row.length ∧ row.length - j ≤ gg ∧ Aside0 (GB W wr g) ∧ Aside0 (Inv s' wr) ∧ Aside0 (loopB f ((List.range row.length).drop j) s' = (rs, rb)))
  case atStart => exact ⟨0, s, rfl, Nat.zero_le _, by omega, ⟨by repeat (first | exact gb_refl _ _ | apply gb_drewN)⟩, ⟨by first | exact HN.out | exact HI.out _ _ _ (pw_below_drewN (Below.refl _ _) _) HN.out⟩, ⟨by simpa using HL.out⟩⟩
  case round =>
   obtain ⟨j, s', rfl, hj, hg', HK2, HN2, HL2⟩ := hrel
   by_cases hlt : j < row.length
   · have c0 : decide ((j : Int) < (row.length : Int)) = true := decide_eq_true (by omega)
     have q0 : (0 ≤ (j : Int)) = True := eq_true (by omega)
     have q1 : ((j : Int) < (row.length : Int)) = True := eq_true (by omega)
     have hkw := gb_trans HK.out HK2.out
     obtain ⟨_, hC⟩ := HROW.out wr (gb_keep hkw)
     obtain ⟨ad2, hA, hx⟩ := Kd.at_int hC (j : Int) (by omega) (by omega)
     subst hA
     rw [Int.toNat_natCast] at hx
     have z0 := pkeep_cell (gb_keep hkw) HBP.out nbp
     have HKW := Aside0.mk hkw
     have hq := HL2.out
     rw [loopB_at f s' hlt] at hq
     have hfj : f s' j = if rd row (j : Int) > 0 then (if (j : Int) ∈ p then (s', true) else dfs l0 step m s' (p ++ [(j : Int)])) else (s', true) := by rw [HF.out]
     rw [hfj] at hq
     clear hkw hC hfj
     by_cases cx : rd row (j : Int) > 0
     · have d0 : decide (rd row (j : Int) > 0) = true := decide_eq_true cx
       rw [if_pos cx] at hq
       by_cases cm : (j : Int) ∈ p
       · rw [if_pos cm] at hq
         have HQ := Aside0.mk hq
         obtain ⟨kc, hkc⟩ := Ev.get (slContains_ev p (j : Int) (by have := HM.out; omega))
         rw [decide_eq_true cm] at hkc
         have AC := Aside0.mk hkc
         clear hq cx HL2 cm hkc
         go_wp2
         repeat (go_quiet ((go_at_call 102; (with_reducible refine (slices_Contains_int_int.calls kc _ _ p (j : Int) true _ ?side1 ?side2 AC.out).mono ?_); (case side1 => exact (Kd.R_reads' (Kd.R_keep (Kd.R_mono (Kd.R_bound HR.out) (ok' := fun k => w0.heap.size ≤ k) (fun k hk => hk.2.1)) (gb_keep HK2.out) (fun k hk => by omega))).2.2); (case side2 => exact (Kd.R_reads' HR.out).2.1); rintro e w' ⟨rfl, ⟨nd, rfl⟩⟩; (try first | exact ⟨rfl, _, World.drewN_drewN _ _ _⟩ | exact ⟨rfl, _, Eq.trans (World.drewN_drewN _ _ _) (congrArg (World.drewN _) (Nat.add_assoc _ _ _))⟩))); try go_wp2)
         go_roundg (row.length - (j + 1))
         case measure => omega
         case rel => exact ⟨j + 1, s', by go_num, by omega, by omega, ⟨by repeat (first | exact HK2.out | apply gb_drewN)⟩, ⟨by first | exact HN2.out | exact HI.out _ _ _ (pw_below_drewN (Below.refl _ _) _) HN2.out⟩, ⟨by simpa using HQ.out⟩⟩
       · rw [if_neg cm] at hq
         obtain ⟨kc, hkc⟩ := Ev.get (slContains_ev p (j : Int) (by have := HM.out; omega))
         rw [decide_eq_false cm] at hkc
         have AC := Aside0.mk hkc
         obtain ⟨D, hD⟩ : ∃ D, D = dfs l0 step m s' (p ++ [(j : Int)]) := ⟨_, rfl⟩
         rw [← hD] at hq
         obtain ⟨ds, db⟩ := D
         have HREC : Aside0 (∀ (v : Value) (W1 : World), Below wr.heap.size wr W1 → Kd.R (Kd.int .i64) 3 W1 wr.heap.size (fun _ => True) v (p ++ [(j : Int)]) → Calls Try.prog 112 #[v, .pointer (some ⟨B0, 0, none⟩), .pointer (some ⟨Bv, 0, none⟩), .pointer (some ⟨Bp, 0, none⟩)] W1 fun e w' => e = .returned (.bool db) ∧ GB wr w' g ∧ Inv ds w') := ⟨fun v W1 hb hr => by
          have h1 := HIH.out s' (p ++ [(j : Int)]) v W1 (by rw [List.length_append]; have := HM.out; simp only [List.length_cons, List.length_nil]; omega) (gb_trans HKW.out (gb_below hb)) (HI.out _ _ _ hb HN2.out) (Kd.R_lower hr HKW.out.size)
          rw [← hD] at h1
          exact h1.mono (fun e w' h => ⟨h.1, gb_trans (gb_below hb) h.2.1, h.2.2⟩)⟩
         have HRP := Aside0.mk (Kd.R_keep (Kd.R_mono (Kd.R_bound HR.out) (ok' := fun k => w0.heap.size ≤ k) (fun k hk => hk.2.1)) (gb_keep HK2.out) (fun k hk => by omega))
         have HCL := Aside0.mk (show slices_Clone_int_int.f p = some p by unfold slices_Clone_int_int.f; rw [if_pos (by have := HM.out; omega)])
         have HBW := Aside0.mk (Below.refl wr.heap.size wr)
         have hp6 : p.length ≤ 1000 := by have := HM.out; omega
         cases db with
         | true =>
          rw [if_pos rfl] at hq
          have HQ := Aside0.mk hq
          clear hq cx HL2 cm hkc hD
          go_wp2
          go_region_law (first | ((with_reducible refine gateS_ 33 rfl ?_); refine goes_ Try.func102 (by kernel_rfl) rfl #[.slice Ap p.length cp, .int .i64 (j : Int)] (by rfl) rfl rfl (by first | (simp [Act.eval, Act.put]; done) | rfl | (go_simp; done) | (go_simp; rfl)) ?_; (with_reducible refine (slices_Contains_int_int.calls kc _ _ p (j : Int) false _ ?side1 ?side2 AC.out).mono ?_); (case side1 => exact Kd.C_below (Kd.R_reads' HRP.out).2.2 (by repeat (first | (with_reducible first | exact HBW.out | apply below_alloc | apply pw_below_drewN | apply below_drew1) | exact HBW.out))); (case side2 => exact (Kd.R_reads' HR.out).2.1); rintro e w' ⟨rfl, ⟨nd, rfl⟩⟩; refine ⟨_, rfl, ?_⟩; have z5 := alloc_bx (W := wr.drewN (1 + nd)) (.cells #[.int .i64 (j : Int)] 3) z0) | ((with_reducible refine gateS_ 39 rfl ?_); refine goes_ Try.func107 (by kernel_rfl) rfl #[.slice Ap p.length cp] (by rfl) rfl rfl (by first | (simp [Act.eval, Act.put]; done) | rfl | (go_simp; done) | (go_simp; rfl)) ?_; (with_reducible show Calls _ _ _ (World.alloc _ _) _); (refine (slices_Clone_int_int.calls _ _ p p _ ?side1 ?side2 HCL.out).mono ?_); (case side1 => exact Kd.C_below (Kd.R_reads' HRP.out).2.2 (by repeat (first | (with_reducible first | exact HBW.out | apply below_alloc | apply pw_below_drewN | apply below_drew1) | exact HBW.out))); (case side2 => exact (Kd.R_reads' HR.out).2.1); rintro e wc ⟨vc, rfl, ho, hb⟩; refine ⟨_, rfl, ?_⟩; (have hb1 := below_step (by repeat (first | (with_reducible first | exact HBW.out | apply below_alloc | apply pw_below_drewN | apply below_drew1) | exact HBW.out)) hb); (have HO := Aside0.mk (show Kd.R (Kd.int .i64) 3 wc wr.heap.size (fun _ => True) vc p from Kd.R_lower ho (below_size (by repeat (first | (with_reducible first | exact HBW.out | apply below_alloc | apply pw_below_drewN | apply below_drew1) | exact HBW.out))))); (have HBW2 := Aside0.mk hb1); have z1 := tab_bx hb1 z0 (World.block_lt_of_cell? wr _ z0); have z4 := alloc_bx (.cells #[.int .i64 (j : Int)] 3) z1; have zb : wc.cell? ⟨wr.heap.size, 0, none⟩ = some (.int .i64 (j : Int)) := (hb.cell (p := ⟨wr.heap.size, 0, none⟩) (by first | (simp; done) | (simp [go_sem]; done))).trans (alloc_new_at (wr.drewN _) _ _); clear ho hb hb1 HBW; have HBW := HBW2; clear HBW2) | ((with_reducible refine gateS_ 39 rfl ?_); refine goes_ Try.func107 (by kernel_rfl) rfl #[.slice Ap p.length cp] (by rfl) rfl rfl (by first | (simp [Act.eval, Act.put]; done) | rfl | (go_simp; done) | (go_simp; rfl)) ?_; (refine (slices_Clone_int_int.calls _ _ p p _ ?side1 ?side2 HCL.out).mono ?_); (case side1 => exact Kd.C_below (Kd.R_reads' HRP.out).2.2 (by repeat (first | (with_reducible first | exact HBW.out | apply below_alloc | apply pw_below_drewN | apply below_drew1) | exact HBW.out))); (case side2 => exact (Kd.R_reads' HR.out).2.1); rintro e wc ⟨vc, rfl, ho, hb⟩; refine ⟨_, rfl, ?_⟩; (have hb1 := below_step (by repeat (first | (with_reducible first | exact HBW.out | apply below_alloc | apply pw_below_drewN | apply below_drew1) | exact HBW.out)) hb); (have HO := Aside0.mk (show Kd.R (Kd.int .i64) 3 wc wr.heap.size (fun _ => True) vc p from Kd.R_lower ho (below_size (by repeat (first | (with_reducible first | exact HBW.out | apply below_alloc | apply pw_below_drewN | apply below_drew1) | exact HBW.out))))); (have HBW2 := Aside0.mk hb1); have z1 := tab_bx hb1 z0 (World.block_lt_of_cell? wr _ z0); have z4 := alloc_bx (.cells #[.int .i64 (j : Int)] 3) z1; clear ho hb hb1 HBW; have HBW := HBW2; clear HBW2) | ((with_reducible refine gateS_ 42 rfl ?_); refine Kd.R_append_rows_step (Kd.int .i64) (w0 := wr) wr.heap.size (by rfl) (.tmp 39) (.tmp 41) 24 3 (.int .i64 0) 8 rfl Try.underlying24 info3 rfl (by decide) (by omega) vc p [(j : Int)] (some ⟨wr.heap.size, 0, none⟩) 1 1 (fun _ => True) (fun _ => False) (by first | (simp [Act.eval, Act.put]; done) | rfl | (go_simp; done) | (go_simp; rfl)) (by first | (simp [Act.eval, Act.put]; done) | rfl | (go_simp; done) | (go_simp; rfl)) HO.out (Rr := fun x cs => cs = [.int .i64 x]) (one_row zb) (fun _ _ h => h) (fun _ hk => hk.elim) (fun _ _ => trivial) HBW.out HBW.out.size (by omega) ?_; intro v1 w1 ho hb hg hat; have HO1 := Aside0.mk ho; have HB1 := Aside0.mk hb; have z2 := tab_bx hb z0 (World.block_lt_of_cell? wr _ z0); clear ho hb hg hat) | ((with_reducible refine gateS_ 42 rfl ?_); refine Kd.R_append_step (Kd.int .i64) (w0 := wr) wr.heap.size (by rfl) (.tmp 39) (.tmp 41) 24 3 (.int .i64 0) 8 rfl Try.underlying24 info3 rfl (by decide) (by omega) vc p (j : Int) [.int .i64 (j : Int)] (fun _ => True) (fun _ => False) (by first | (simp [Act.eval, Act.put]; done) | rfl | (go_simp; done) | (go_simp; rfl)) (by first | (simp [Act.eval, Act.put]; done) | rfl | (go_simp; done) | (go_simp; rfl)) rfl (fun _ hk => hk.elim) (fun _ _ => trivial) HO.out HBW.out HBW.out.size (by omega) ?_; intro v1 w1 ho hb hg hat; have HO1 := Aside0.mk ho; have HB1 := Aside0.mk hb; have z2 := tab_bx hb z0 (World.block_lt_of_cell? wr _ z0); clear ho hb hg hat) | ((with_reducible refine gateS_ 43 rfl ?_); refine goesFS_ (some 43) 37 112 #[.pointer (some ⟨B0, 0, none⟩), .pointer (some ⟨Bv, 0, none⟩), .pointer (some ⟨Bp, 0, none⟩)] EGP.out #[v1] (by rfl) rfl rfl (by first | (simp [Act.eval, Act.put]; done) | rfl | (go_simp; done) | (go_simp; rfl)) (by first | (simp [Act.eval, Act.put]; done) | rfl | (go_simp; done) | (go_simp; rfl)) ?_; (refine (HREC.out v1 _ HB1.out HO1.out).mono ?_); rintro e w2 ⟨rfl, hk2, hi2⟩; refine ⟨_, rfl, ?_⟩; have HK3 := Aside0.mk hk2; have HI3 := Aside0.mk hi2; clear hk2 hi2))
          all_goals
           go_wp2
           go_roundg (row.length - (j + 1))
           case measure => omega
           case rel => exact ⟨j + 1, ds, by go_num, by omega, by omega, ⟨gb_trans HK2.out HK3.out⟩, ⟨HI3.out⟩, ⟨by simpa using HQ.out⟩⟩
         | false =>
          rw [if_neg (by simp)] at hq
          obtain ⟨rfl, rfl⟩ : ds = rs ∧ false = rb := by simpa using hq
          clear hq cx HL2 cm hkc hD
          go_wp2
          go_region_law (first | ((with_reducible refine gateS_ 33 rfl ?_); refine goes_ Try.func102 (by kernel_rfl) rfl #[.slice Ap p.length cp, .int .i64 (j : Int)] (by rfl) rfl rfl (by first | (simp [Act.eval, Act.put]; done) | rfl | (go_simp; done) | (go_simp; rfl)) ?_; (with_reducible refine (slices_Contains_int_int.calls kc _ _ p (j : Int) false _ ?side1 ?side2 AC.out).mono ?_); (case side1 => exact Kd.C_below (Kd.R_reads' HRP.out).2.2 (by repeat (first | (with_reducible first | exact HBW.out | apply below_alloc | apply pw_below_drewN | apply below_drew1) | exact HBW.out))); (case side2 => exact (Kd.R_reads' HR.out).2.1); rintro e w' ⟨rfl, ⟨nd, rfl⟩⟩; refine ⟨_, rfl, ?_⟩; have z5 := alloc_bx (W := wr.drewN (1 + nd)) (.cells #[.int .i64 (j : Int)] 3) z0) | ((with_reducible refine gateS_ 39 rfl ?_); refine goes_ Try.func107 (by kernel_rfl) rfl #[.slice Ap p.length cp] (by rfl) rfl rfl (by first | (simp [Act.eval, Act.put]; done) | rfl | (go_simp; done) | (go_simp; rfl)) ?_; (with_reducible show Calls _ _ _ (World.alloc _ _) _); (refine (slices_Clone_int_int.calls _ _ p p _ ?side1 ?side2 HCL.out).mono ?_); (case side1 => exact Kd.C_below (Kd.R_reads' HRP.out).2.2 (by repeat (first | (with_reducible first | exact HBW.out | apply below_alloc | apply pw_below_drewN | apply below_drew1) | exact HBW.out))); (case side2 => exact (Kd.R_reads' HR.out).2.1); rintro e wc ⟨vc, rfl, ho, hb⟩; refine ⟨_, rfl, ?_⟩; (have hb1 := below_step (by repeat (first | (with_reducible first | exact HBW.out | apply below_alloc | apply pw_below_drewN | apply below_drew1) | exact HBW.out)) hb); (have HO := Aside0.mk (show Kd.R (Kd.int .i64) 3 wc wr.heap.size (fun _ => True) vc p from Kd.R_lower ho (below_size (by repeat (first | (with_reducible first | exact HBW.out | apply below_alloc | apply pw_below_drewN | apply below_drew1) | exact HBW.out))))); (have HBW2 := Aside0.mk hb1); have z1 := tab_bx hb1 z0 (World.block_lt_of_cell? wr _ z0); have z4 := alloc_bx (.cells #[.int .i64 (j : Int)] 3) z1; have zb : wc.cell? ⟨wr.heap.size, 0, none⟩ = some (.int .i64 (j : Int)) := (hb.cell (p := ⟨wr.heap.size, 0, none⟩) (by first | (simp; done) | (simp [go_sem]; done))).trans (alloc_new_at (wr.drewN _) _ _); clear ho hb hb1 HBW; have HBW := HBW2; clear HBW2) | ((with_reducible refine gateS_ 39 rfl ?_); refine goes_ Try.func107 (by kernel_rfl) rfl #[.slice Ap p.length cp] (by rfl) rfl rfl (by first | (simp [Act.eval, Act.put]; done) | rfl | (go_simp; done) | (go_simp; rfl)) ?_; (refine (slices_Clone_int_int.calls _ _ p p _ ?side1 ?side2 HCL.out).mono ?_); (case side1 => exact Kd.C_below (Kd.R_reads' HRP.out).2.2 (by repeat (first | (with_reducible first | exact HBW.out | apply below_alloc | apply pw_below_drewN | apply below_drew1) | exact HBW.out))); (case side2 => exact (Kd.R_reads' HR.out).2.1); rintro e wc ⟨vc, rfl, ho, hb⟩; refine ⟨_, rfl, ?_⟩; (have hb1 := below_step (by repeat (first | (with_reducible first | exact HBW.out | apply below_alloc | apply pw_below_drewN | apply below_drew1) | exact HBW.out)) hb); (have HO := Aside0.mk (show Kd.R (Kd.int .i64) 3 wc wr.heap.size (fun _ => True) vc p from Kd.R_lower ho (below_size (by repeat (first | (with_reducible first | exact HBW.out | apply below_alloc | apply pw_below_drewN | apply below_drew1) | exact HBW.out))))); (have HBW2 := Aside0.mk hb1); have z1 := tab_bx hb1 z0 (World.block_lt_of_cell? wr _ z0); have z4 := alloc_bx (.cells #[.int .i64 (j : Int)] 3) z1; clear ho hb hb1 HBW; have HBW := HBW2; clear HBW2) | ((with_reducible refine gateS_ 42 rfl ?_); refine Kd.R_append_rows_step (Kd.int .i64) (w0 := wr) wr.heap.size (by rfl) (.tmp 39) (.tmp 41) 24 3 (.int .i64 0) 8 rfl Try.underlying24 info3 rfl (by decide) (by omega) vc p [(j : Int)] (some ⟨wr.heap.size, 0, none⟩) 1 1 (fun _ => True) (fun _ => False) (by first | (simp [Act.eval, Act.put]; done) | rfl | (go_simp; done) | (go_simp; rfl)) (by first | (simp [Act.eval, Act.put]; done) | rfl | (go_simp; done) | (go_simp; rfl)) HO.out (Rr := fun x cs => cs = [.int .i64 x]) (one_row zb) (fun _ _ h => h) (fun _ hk => hk.elim) (fun _ _ => trivial) HBW.out HBW.out.size (by omega) ?_; intro v1 w1 ho hb hg hat; have HO1 := Aside0.mk ho; have HB1 := Aside0.mk hb; have z2 := tab_bx hb z0 (World.block_lt_of_cell? wr _ z0); clear ho hb hg hat) | ((with_reducible refine gateS_ 42 rfl ?_); refine Kd.R_append_step (Kd.int .i64) (w0 := wr) wr.heap.size (by rfl) (.tmp 39) (.tmp 41) 24 3 (.int .i64 0) 8 rfl Try.underlying24 info3 rfl (by decide) (by omega) vc p (j : Int) [.int .i64 (j : Int)] (fun _ => True) (fun _ => False) (by first | (simp [Act.eval, Act.put]; done) | rfl | (go_simp; done) | (go_simp; rfl)) (by first | (simp [Act.eval, Act.put]; done) | rfl | (go_simp; done) | (go_simp; rfl)) rfl (fun _ hk => hk.elim) (fun _ _ => trivial) HO.out HBW.out HBW.out.size (by omega) ?_; intro v1 w1 ho hb hg hat; have HO1 := Aside0.mk ho; have HB1 := Aside0.mk hb; have z2 := tab_bx hb z0 (World.block_lt_of_cell? wr _ z0); clear ho hb hg hat) | ((with_reducible refine gateS_ 43 rfl ?_); refine goesFS_ (some 43) 37 112 #[.pointer (some ⟨B0, 0, none⟩), .pointer (some ⟨Bv, 0, none⟩), .pointer (some ⟨Bp, 0, none⟩)] EGP.out #[v1] (by rfl) rfl rfl (by first | (simp [Act.eval, Act.put]; done) | rfl | (go_simp; done) | (go_simp; rfl)) (by first | (simp [Act.eval, Act.put]; done) | rfl | (go_simp; done) | (go_simp; rfl)) ?_; (refine (HREC.out v1 _ HB1.out HO1.out).mono ?_); rintro e w2 ⟨rfl, hk2, hi2⟩; refine ⟨_, rfl, ?_⟩; have HK3 := Aside0.mk hk2; have HI3 := Aside0.mk hi2; clear hk2 hi2))
          all_goals
           go_wp2
           go_ret
           exact ⟨rfl, gb_trans HK2.out HK3.out, HI3.out⟩
     · have d0 : decide (rd row (j : Int) > 0) = false := decide_eq_false cx
       rw [if_neg cx] at hq
       have HQ := Aside0.mk hq
       clear hq cx HL2
       go_wp2
       repeat (go_quiet (fail); try go_wp2)
       go_wp2
       go_roundg (row.length - (j + 1))
       case measure => omega
       case rel => exact ⟨j + 1, s', by go_num, by omega, by omega, ⟨by repeat (first | exact HK2.out | apply gb_drewN)⟩, ⟨by first | exact HN2.out | exact HI.out _ _ _ (pw_below_drewN (Below.refl _ _) _) HN2.out⟩, ⟨by simpa using HQ.out⟩⟩
   · have c0 : decide ((j : Int) < (row.length : Int)) = false := decide_eq_false (by omega)
     have e : j = row.length := by omega
     have hq := HL2.out
     rw [e, loopB_end] at hq
     obtain ⟨rfl, rfl⟩ : s' = rs ∧ true = rb := by simpa using hq
     clear hq e
     go_wp2
     go_ret
     exact ⟨rfl, HK2.out, HN2.out⟩
end Go.Proofs.Ytkhpojcplejdjaa.A

/- placings: the visit of all placings in a table. -/
namespace Go.Proofs.Ytkhpojcplejdjaa.A
open Go.RowKit Go.Proofs.YtkhpojcplejdjaaW.PrintWords Go.Proofs.YtkhpojcplejdjaaW.PrintLast Go.Proofs.YtkhpojcplejdjaaW.PrintMore
attribute [local go_sem] max2_int min2_int max_two min_two max_three min_three max_four min_four
set_option linter.unusedVariables false
set_option linter.unusedSimpArgs false

set_option maxHeartbeats 8000000 in
set_option maxRecDepth 100000 in
theorem placings_calls {σ : Type} (l0 : List (List Int)) (A0 : Option Addr) (c0 : Nat) (w : World) (g : Nat) (Inv : σ → World → Prop) (step : σ → List Int → σ × Bool) (fv : Nat) (lb : Array Value) (s : σ) (hg : g < w.heap.size) (hl0 : l0.length ≤ 1000) (hrl : ∀ x ∈ l0, x.length ≤ 1000)
 (eg : ∀ args w, (callFunc fv args).run Try.prog w = .ok (.enter fv args) w)
 (hT : ∀ W', KeepBut w W' g none → Kd.C (Kd.slice 3 (Kd.int .i64)) W' A0 l0.length l0)
 (hI : ∀ s W W', Below W.heap.size W W' → Inv s W → Inv s W') (hi : Inv s w)
 (hv : ∀ s p v W, GB w W g → Inv s W → p.length = l0.length → Kd.R (Kd.int .i64) 3 W w.heap.size (fun _ => True) v p → Calls Try.prog fv (#[v] ++ lb) W fun e w' => e = .returned (.bool (step s p).2) ∧ GB W w' g ∧ Inv (step s p).1 w') :
 Calls Try.prog 95 #[.slice A0 l0.length c0, .func (.func fv) #[] lb] w fun e w' => e = .returned (.tuple #[]) ∧ GB w w' g ∧ Inv (dfs l0 step l0.length s []).1 w' := by
 have HV := Aside0.mk hv
 have HT := Aside0.mk hT
 have EG := Aside0.mk eg
 have HI := Aside0.mk hI
 have HN := Aside0.mk hi
 have HRL := Aside0.mk hrl
 clear hv hT eg hI hi hrl
 have EGP := Aside0.mk (show ∀ args w, (callFunc 112 args).run Try.prog w = .ok (.enter 112 args) w from fun args w => enters_ Try.func112 (by kernel_rfl) rfl args w)
 have hb3 : Below w.heap.size w (((w.alloc (.cells #[.slice A0 l0.length c0] 22)).alloc (.cells #[.func (.func fv) #[] lb] 71)).alloc (.cells #[(.func (.func 112) #[] #[.pointer (some ⟨w.heap.size, 0, none⟩), .pointer (some ⟨w.heap.size + 1, 0, none⟩), .pointer (some ⟨w.heap.size + 1 + 1, 0, none⟩)])] 71)) := by repeat (first | exact Below.refl _ _ | apply below_alloc)
 have h0 : (((w.alloc (.cells #[.slice A0 l0.length c0] 22)).alloc (.cells #[.func (.func fv) #[] lb] 71)).alloc (.cells #[(.func (.func 112) #[] #[.pointer (some ⟨w.heap.size, 0, none⟩), .pointer (some ⟨w.heap.size + 1, 0, none⟩), .pointer (some ⟨w.heap.size + 1 + 1, 0, none⟩)])] 71)).cell? ⟨w.heap.size, 0, none⟩ = some (.slice A0 l0.length c0) := by simp [go_sem]
 have h1 : (((w.alloc (.cells #[.slice A0 l0.length c0] 22)).alloc (.cells #[.func (.func fv) #[] lb] 71)).alloc (.cells #[(.func (.func 112) #[] #[.pointer (some ⟨w.heap.size, 0, none⟩), .pointer (some ⟨w.heap.size + 1, 0, none⟩), .pointer (some ⟨w.heap.size + 1 + 1, 0, none⟩)])] 71)).cell? ⟨w.heap.size + 1, 0, none⟩ = some (.func (.func fv) #[] lb) := by simp [go_sem]
 have h2 : (((w.alloc (.cells #[.slice A0 l0.length c0] 22)).alloc (.cells #[.func (.func fv) #[] lb] 71)).alloc (.cells #[(.func (.func 112) #[] #[.pointer (some ⟨w.heap.size, 0, none⟩), .pointer (some ⟨w.heap.size + 1, 0, none⟩), .pointer (some ⟨w.heap.size + 1 + 1, 0, none⟩)])] 71)).cell? ⟨w.heap.size + 1 + 1, 0, none⟩ = some (.func (.func 112) #[] #[.pointer (some ⟨w.heap.size, 0, none⟩), .pointer (some ⟨w.heap.size + 1, 0, none⟩), .pointer (some ⟨w.heap.size + 1 + 1, 0, none⟩)]) := by simp [go_sem]
 go_enter Try.func95, Try.ntmps95
 go_upto_region 3 with (fail)
 generalize (((w.alloc (.cells #[.slice A0 l0.length c0] 22)).alloc (.cells #[.func (.func fv) #[] lb] 71)).alloc (.cells #[(.func (.func 112) #[] #[.pointer (some ⟨w.heap.size, 0, none⟩), .pointer (some ⟨w.heap.size + 1, 0, none⟩), .pointer (some ⟨w.heap.size + 1 + 1, 0, none⟩)])] 71)) = W3 at hb3 h0 h1 h2 ⊢
 have X0 := Aside0.mk h0
 have X1 := Aside0.mk h1
 have X2 := Aside0.mk h2
 have HB3 := Aside0.mk hb3
 have HG3 := Aside0.mk (Nat.lt_of_lt_of_le hg hb3.size)
 have HN3 := Aside0.mk (HI.out _ _ _ hb3 HN.out)
 have HT3 := Aside0.mk (fun (W' : World) (hk : KeepBut W3 W' g none) => HT.out W' ((KeepBut.of_below hb3 g none).trans hk (.inl rfl)))
 have HV3 := Aside0.mk (fun (s : σ) (p : List Int) (v : Value) (W : World) (hk : GB W3 W g) (hi : Inv s W) (hp : p.length = l0.length) (hr : Kd.R (Kd.int .i64) 3 W W3.heap.size (fun _ => True) v p) => HV.out s p v W (gb_trans (gb_below hb3) hk) hi hp (Kd.R_lower hr hb3.size))
 clear h0 h1 hb3
 go_wp2_with (first | ((with_reducible refine gate_dst (N := 7) rfl ?_); refine Kd.R_lit (Kd.int .i64) _ 3 ?hg (N := 7) ?hd (xs := ([] : List Int)) (inner := []) (ok := fun _ => True) (okp := fun _ => True) ?hr ?hp (fun _ hk => hk) trivial (Below.refl _ _) (Nat.le_refl _) (by simp) ?_; (case hd => rfl); (case hg => rfl); (case hr => first | (go_simp; done) | (go_simp; rfl)); (case hp => exact (Reps.none _ _)); intro v4 w4 ho hb hg_ hnew_; clear hg_ hnew_; have HO := Aside0.mk ho; have HB4 := Aside0.mk hb; clear ho hb) | ((with_reducible refine gate_dst (N := 8) rfl ?_); refine goesF_ (some 8) rfl rfl 6 112 #[.pointer (some ⟨w.heap.size, 0, none⟩), .pointer (some ⟨w.heap.size + 1, 0, none⟩), .pointer (some ⟨w.heap.size + 1 + 1, 0, none⟩)] EGP.out #[v4] rfl rfl (by (try simp only [List.map_toArray, List.map_cons, List.map_nil]); first | done | rfl) ?_; (refine (place_calls l0 A0 c0 W3 g Inv step fv lb w.heap.size (w.heap.size + 1) (w.heap.size + 1 + 1) HG3.out hl0 HRL.out EG.out HT3.out X0.out (by omega) X1.out (by omega) X2.out (by omega) HI.out HV3.out l0.length s [] v4 w4 (by simp) (gb_below HB4.out) (HI.out _ _ _ HB4.out HN3.out) HO.out).mono ?_); rintro e w5 ⟨rfl, hk5, hi5⟩; refine ⟨_, rfl, ?_⟩; have HK5 := Aside0.mk hk5; have HI5 := Aside0.mk hi5; clear hk5 hi5))
 exact bodyPost_end (results_none rfl _ _ _) rfl ⟨rfl, gb_trans (gb_below HB3.out) (gb_trans (gb_below HB4.out) HK5.out), HI5.out⟩
end Go.Proofs.Ytkhpojcplejdjaa.A

/- firstPlacing, FirstPlacing: the first visit lays the placing into memory and ends the search. -/
namespace Go.Proofs.Ytkhpojcplejdjaa.A
open Go.RowKit Go.Proofs.YtkhpojcplejdjaaW.PrintWords Go.Proofs.YtkhpojcplejdjaaW.PrintLast Go.Proofs.YtkhpojcplejdjaaW.PrintMore
attribute [local go_sem] max2_int min2_int max_two min_two max_three min_three max_four min_four
set_option linter.unusedVariables false
set_option linter.unusedSimpArgs false

def firstStep (_ : Option (List Int)) (p : List Int) : Option (List Int) × Bool := (some p, false)
def firstP (l0 : List (List Int)) : Option (List Int) := (dfs l0 firstStep l0.length none []).1
def smallR (l : List (List Int)) : Bool := decide (l.length ≤ 1000) && l.all fun x => decide (x.length ≤ 1000)
theorem smallR_spec {l : List (List Int)} (h : smallR l = true) : l.length ≤ 1000 ∧ ∀ x ∈ l, x.length ≤ 1000 := by
 unfold smallR at h
 simpa using h
def RowAt (base g : Nat) (o : Option (List Int)) (W : World) : Prop := W.frozen? ⟨g, 0, none⟩ = false ∧ match o with | none => W.cell? ⟨g, 0, none⟩ = some (.slice none 0 0) | some p => ∃ v, W.cell? ⟨g, 0, none⟩ = some v ∧ Kd.R (Kd.int .i64) 3 W base (fun _ => True) v p
theorem rowAt_cell {base g : Nat} {o : Option (List Int)} {W : World} (h : RowAt base g o W) : ∃ v, W.cell? ⟨g, 0, none⟩ = some v ∧ v.oneCell' = true := by
 cases o with
 | none => exact ⟨_, h.2, rfl⟩
 | some p =>
  obtain ⟨v, hv, hr⟩ := h.2
  obtain ⟨A, c, rfl⟩ := Kd.R_slice hr
  exact ⟨_, hv, rfl⟩
theorem rowAt_below {base g : Nat} {o : Option (List Int)} {W W' : World} (hb : Below W.heap.size W W') (h : RowAt base g o W) : RowAt base g o W' := by
 obtain ⟨u, hu, _⟩ := rowAt_cell h
 have hlt := World.block_lt_of_cell? W _ hu
 refine ⟨(hb.frozen (p := ⟨g, 0, none⟩) hlt).trans h.1, ?_⟩
 cases o with
 | none => exact (hb.cell (p := ⟨g, 0, none⟩) hlt).trans h.2
 | some p =>
  obtain ⟨v, hv, hr⟩ := h.2
  exact ⟨v, (hb.cell (p := ⟨g, 0, none⟩) hlt).trans hv, Kd.R_below hr hb⟩
theorem gb_set1 (W : World) (g : Nat) (u : Value) : GB W (W.setCell ⟨g, 0, none⟩ u) g := ⟨rfl, rfl, rfl, by simp, fun i hi hne => Below.heap_setCell W ⟨g, 0, none⟩ u i (by intro e; exact hne (congrArg some e))⟩
set_option maxHeartbeats 2000000 in
theorem first_cell (base b0 g : Nat) (o : Option (List Int)) (p : List Int) (v : Value) (W : World) (hg : g < b0) (hb0 : base ≤ b0) (h : RowAt base g o W) (hr : Kd.R (Kd.int .i64) 3 W b0 (fun _ => True) v p) :
 Calls Try.prog 96 (#[v] ++ #[.pointer (some ⟨g, 0, none⟩)]) W fun e w' => e = .returned (.bool false) ∧ GB W w' g ∧ RowAt base g (some p) w' := by
 obtain ⟨u, hu, _⟩ := rowAt_cell h
 obtain ⟨A, c, rfl⟩ := Kd.R_slice hr
 have hf := h.1
 have HS := Aside0.mk (show RowAt base g (some p) (W.setCell ⟨g, 0, none⟩ (.slice A p.length c)) from ⟨by rw [World.frozen?_setCell]; exact hf, _, World.cell?_setCell_same _ _ _ hu, Kd.R_lower (Kd.R_mono (ok' := fun _ => True) (Kd.R_far (p := ⟨g, 0, none⟩) (ok := fun k => b0 ≤ k) (Kd.R_mono (Kd.R_bound hr) (fun k hk => hk.2.1)) (fun k hk => by show k ≠ g; omega) _) (fun _ _ => trivial)) hb0⟩)
 have HK := Aside0.mk (gb_set1 W g (.slice A p.length c))
 clear h hr
 show Calls Try.prog 96 #[.slice A p.length c, .pointer (some ⟨g, 0, none⟩)] W _
 go_enter Try.func96, Try.ntmps96
 go_wp2
 go_ret
 exact ⟨rfl, HK.out, HS.out⟩
def FirstAt (W : World) (base : Nat) (v : Value) (o : Option (List Int)) : Prop := (o = none → v = .slice none 0 0) ∧ ∀ p, o = some p → Kd.R (Kd.int .i64) 3 W base (fun _ => True) v p
def FirstPost (base : Nat) (o : Option (List Int)) (e : Ending) (W : World) : Prop := ∃ v, e = .returned v ∧ FirstAt W base v o
set_option maxHeartbeats 4000000 in
set_option maxRecDepth 100000 in
theorem firstPlacing_calls (A0 : Option Addr) (c0 : Nat) (l0 : List (List Int)) (w : World) (hT : Kd.C (Kd.slice 3 (Kd.int .i64)) w A0 l0.length l0) (hl : l0.length ≤ 1000) (hx : ∀ x ∈ l0, x.length ≤ 1000) :
 Calls Try.prog 52 #[.slice A0 l0.length c0] w fun e w' => FirstPost w.heap.size (firstP l0) e w' ∧ Below w.heap.size w w' := by
 have HT := Aside0.mk hT
 have HL := Aside0.mk hl
 have HX := Aside0.mk hx
 have EG := Aside0.mk (show ∀ args w, (callFunc 96 args).run Try.prog w = .ok (.enter 96 args) w from fun args w => enters_ Try.func96 (by kernel_rfl) rfl args w)
 obtain ⟨R, hR⟩ : ∃ R, R = firstP l0 := ⟨_, rfl⟩
 rw [← hR]
 have HRR := Aside0.mk hR
 have HB := Aside0.mk (Below.refl w.heap.size w)
 clear hT hl hx hR
 go_enter Try.func52, Try.ntmps52
 go_wp2_with (go_at_call 95; (refine (placings_calls l0 A0 c0 _ w.heap.size (RowAt w.heap.size w.heap.size) firstStep 96 #[.pointer (some ⟨w.heap.size, 0, none⟩)] none (by simp) HL.out HX.out EG.out ?side1 (fun s W W' hb h => rowAt_below hb h) ?side2 ?side3).mono ?_); (case side1 => exact Kd.C_foot_came (Kd.heap_slice _ (Kd.heap_int _)) HT.out (below_alloc (Below.refl _ _) _) (Nat.le_refl _)); (case side2 => exact ⟨by simp, by simp⟩); (case side3 => exact fun s p v W hk hi hp hr => first_cell w.heap.size (w.heap.size + 1) w.heap.size s p v W (by omega) (by omega) hi (by simpa using hr)); rintro e w2 ⟨rfl, hk, hi⟩; have HK := Aside0.mk (below_gb (Below.refl w.heap.size w) (gb_trans (gb_below (below_alloc (Below.refl _ _) _)) hk) (Nat.le_refl _)); obtain ⟨u, hu, hone⟩ := rowAt_cell hi; have HI := Aside0.mk (show RowAt w.heap.size w.heap.size R w2 by rw [HRR.out]; exact hi); clear hk hi)
 go_ret
 refine ⟨⟨_, rfl, fun hn => ?_, fun p hp => ?_⟩, HK.out⟩
 · have hi := HI.out
   rw [hn] at hi
   exact Option.some.inj (hu.symm.trans hi.2)
 · have hi := HI.out
   rw [hp] at hi
   obtain ⟨v, hv, hr⟩ := hi.2
   rw [Option.some.inj (hu.symm.trans hv)]
   exact hr
end Go.Proofs.Ytkhpojcplejdjaa.A

/- impl.PartsOf: a copy of the table by square, then, as long as there is something left, the first placing, as often as it can be taken. -/
namespace Go.Proofs.Ytkhpojcplejdjaa.A
open Go.RowKit Go.Proofs.YtkhpojcplejdjaaW.PrintWords Go.Proofs.YtkhpojcplejdjaaW.PrintLast Go.Proofs.YtkhpojcplejdjaaW.PrintMore
attribute [local go_sem] max2_int min2_int max_two min_two max_three min_three max_four min_four
set_option linter.unusedVariables false
set_option linter.unusedSimpArgs false

def partF (l0 : List (List Int)) (i j : Int) : Option Int := if 0 ≤ i ∧ i < (l0.length : Int) ∧ 0 ≤ j ∧ j < ((rd_L1 l0 i).length : Int) then some (rd (rd_L1 l0 i) j) else none
def impl_PartsOf.l1 : Nat → List (List Int) → List (List Int) → List Int → Option ((List (List Int)) × List Int × Bool)
 | 0, _, _, _ => none
 | k + 1, x5, x8, x9 => if 0 < x5.length ∧ smallR x5 = true then ((impl_total.f k (rd_L1 x5 0)).bind fun s => (if s > 0 then ((firstP x5).bind fun p => ((pLeast x5 p p.length 0 1000000).bind fun c => ((pSub p c p.length 0 x5).bind fun y => (if x8.length < 1000000 ∧ x9.length < 1000000 then (impl_PartsOf.l1 k y (x8 ++ [p]) (x9 ++ [c])) else none)))) else (some (x8, x9, true)))) else none
def impl_PartsOf.f (k : Nat) (l0 : List (List Int)) : Option ((List (List Int)) × List Int × Bool) := (impl_IsSquare.f l0).bind fun t => if t = true then ((impl_equalSum.f k l0).bind fun bt => if bt.2 = true then ((impl_square.f (partF l0) k (l0.length : Int)).bind fun u => impl_PartsOf.l1 k u [] []) else some ([], [], false)) else some ([], [], false)
set_option maxHeartbeats 4000000 in
set_option maxRecDepth 100000 in
theorem part_cell (l0 : List (List Int)) (i j t : Int) (A0 : Option Addr) (c0 B0 : Nat) (W : World) (hF : partF l0 i j = some t) (h0 : W.cell? ⟨B0, 0, none⟩ = some (.slice A0 l0.length c0)) (hr0 : Kd.C (Kd.slice 3 (Kd.int .i64)) W A0 l0.length l0) :
 Calls Try.prog 50 #[.int .i64 i, .int .i64 j, .pointer (some ⟨B0, 0, none⟩)] W fun e w' => e = .returned (.int .i64 t) ∧ Below W.heap.size W w' := by
 unfold partF at hF
 split at hF
 next hc =>
  obtain ⟨p0, p1, p3, p4⟩ := hc
  obtain rfl := Option.some.inj hF
  obtain ⟨ad0, ad1, d0, rfl, x0, x1⟩ := tab_at hr0 i j p0 p1 p3 p4
  have q0 := eq_true p0
  have q1 := eq_true p1
  have q3 := eq_true p3
  have q4 := eq_true p4
  clear hr0 hF p0 p1 p3 p4
  go_enter Try.func50, Try.ntmps50
  go_wp2
  repeat (go_quiet (fail); try go_wp2)
  go_ret
  exact ⟨rfl, by repeat (first | exact Below.refl _ _ | apply below_alloc | apply pw_below_drewN | apply below_drew1)⟩
 next => cases hF
set_option maxHeartbeats 8000000 in
set_option maxRecDepth 100000 in
theorem impl_PartsOf.calls (k : Nat) (A0 : Option Addr) (c0 : Nat) (l0 : List (List Int)) (r1 : List (List Int)) (r2 : List Int) (r3 : Bool) (w : World) (hr0 : Kd.C (Kd.slice 3 (Kd.int .i64)) w A0 l0.length l0) (hc0 : l0.length ≤ c0) (h : impl_PartsOf.f k l0 = some (r1, r2, r3)) :
 Calls Try.prog 10 #[.slice A0 l0.length c0] w fun e w' => ∃ v0_ v1_ : Value, e = .returned (.tuple #[v0_, v1_, .bool r3]) ∧ Kd.S (Kd.slice 3 (Kd.int .i64)) 24 w' w.heap.size (fun k_ => w.heap.size ≤ k_ ∧ some k_ ≠ (v1_ : Value).ownBlock) v0_ r1 ∧ Kd.R (Kd.int .i64) 3 w' w.heap.size (fun _ => True) v1_ r2 ∧ Below w.heap.size w w' := by
 unfold impl_PartsOf.f at h
 obtain ⟨t, hs, h⟩ := Option.bind_eq_some_iff.mp h
 have HS := Aside0.mk hs
 have HR0 := Aside0.mk hr0
 have HC0 := Aside0.mk hc0
 have HB := Aside0.mk (Below.refl w.heap.size w)
 clear hr0 hs hc0
 cases t with
 | false =>
  obtain ⟨rfl, rfl, rfl⟩ : [] = r1 ∧ [] = r2 ∧ false = r3 := by simpa using h
  clear h
  go_enter Try.func10, Try.ntmps10
  go_wp2_with (go_at_call 47; (refine (impl_IsSquare.calls _ _ l0 false _ ?side1 ?side2 HS.out).mono ?_); (case side1 => exact Kd.C_below HR0.out (by repeat (first | (with_reducible first | exact HB.out | apply below_alloc | apply pw_below_drewN | apply below_drew1) | exact HB.out))); (case side2 => exact HC0.out); rintro e w1 ⟨rfl, hb⟩; have HB2 := Aside0.mk (below_step (by repeat (first | (with_reducible first | exact HB.out | apply below_alloc | apply pw_below_drewN | apply below_drew1) | exact HB.out)) hb); have x0 := tab_bx hb (B := w.heap.size) (v := .slice A0 l0.length c0) (by simp [go_sem]) (by first | (simp; done) | (simp; omega)); have x2 := Aside0.mk (show w.heap.size < w1.heap.size by have := hb.size; simp at this; omega); clear HB hb; have HB := HB2; clear HB2)
  go_ret3
  exact ⟨_, _, rfl, Kd.S_nil _ _ _ _ _, Kd.R_nil _ _ _ _ _, HB.out⟩
 | true =>
  obtain ⟨⟨es, eb⟩, he, h⟩ := Option.bind_eq_some_iff.mp h
  have HE := Aside0.mk he
  clear he
  cases eb with
  | false =>
   obtain ⟨rfl, rfl, rfl⟩ : [] = r1 ∧ [] = r2 ∧ false = r3 := by simpa using h
   clear h
   go_enter Try.func10, Try.ntmps10
   go_wp2_with (first | (go_at_call 47; (refine (impl_IsSquare.calls _ _ l0 true _ ?side1 ?side2 HS.out).mono ?_); (case side1 => exact Kd.C_below HR0.out (by repeat (first | (with_reducible first | exact HB.out | apply below_alloc | apply pw_below_drewN | apply below_drew1) | exact HB.out))); (case side2 => exact HC0.out); rintro e w1 ⟨rfl, hb⟩; have HB2 := Aside0.mk (below_step (by repeat (first | (with_reducible first | exact HB.out | apply below_alloc | apply pw_below_drewN | apply below_drew1) | exact HB.out)) hb); have x0 := tab_bx hb (B := w.heap.size) (v := .slice A0 l0.length c0) (by simp [go_sem]) (by first | (simp; done) | (simp; omega)); have x2 := Aside0.mk (show w.heap.size < w1.heap.size by have := hb.size; simp at this; omega); clear HB hb; have HB := HB2; clear HB2) | (go_at_call 48; (refine (impl_equalSum.calls k A0 c0 l0 es false _ ?side1 ?side2 HE.out).mono ?_); (case side1 => exact Kd.C_below HR0.out (by repeat (first | (with_reducible first | exact HB.out | apply below_alloc | apply pw_below_drewN | apply below_drew1) | exact HB.out))); (case side2 => exact HC0.out); rintro e w' ⟨rfl, ⟨nd, rfl⟩⟩))
   go_ret3
   exact ⟨_, _, rfl, Kd.S_nil _ _ _ _ _, Kd.R_nil _ _ _ _ _, (by repeat (first | (with_reducible first | exact HB.out | apply below_alloc | apply pw_below_drewN | apply below_drew1) | exact HB.out))⟩
  | true =>
   obtain ⟨u, hu, h⟩ := Option.bind_eq_some_iff.mp h
   have HU := Aside0.mk hu
   have H' := Aside0.mk h
   have EG := Aside0.mk (show ∀ args w, (callFunc 50 args).run Try.prog w = .ok (.enter 50 args) w from fun args w => enters_ Try.func50 (by kernel_rfl) rfl args w)
   clear h hu
   go_enter Try.func10, Try.ntmps10
   go_wp2_with (first | (go_at_call 47; (refine (impl_IsSquare.calls _ _ l0 true _ ?side1 ?side2 HS.out).mono ?_); (case side1 => exact Kd.C_below HR0.out (by repeat (first | (with_reducible first | exact HB.out | apply below_alloc | apply pw_below_drewN | apply below_drew1) | exact HB.out))); (case side2 => exact HC0.out); rintro e w1 ⟨rfl, hb⟩; have HB2 := Aside0.mk (below_step (by repeat (first | (with_reducible first | exact HB.out | apply below_alloc | apply pw_below_drewN | apply below_drew1) | exact HB.out)) hb); have x0 := tab_bx hb (B := w.heap.size) (v := .slice A0 l0.length c0) (by simp [go_sem]) (by first | (simp; done) | (simp; omega)); have x2 := Aside0.mk (show w.heap.size < w1.heap.size by have := hb.size; simp at this; omega); clear HB hb; have HB := HB2; clear HB2) | (go_at_call 48; (refine (impl_equalSum.calls k A0 c0 l0 es true _ ?side1 ?side2 HE.out).mono ?_); (case side1 => exact Kd.C_below HR0.out (by repeat (first | (with_reducible first | exact HB.out | apply below_alloc | apply pw_below_drewN | apply below_drew1) | exact HB.out))); (case side2 => exact HC0.out); rintro e w' ⟨rfl, ⟨nd, rfl⟩⟩) | (go_at_call 49; (refine (impl_square.calls _ 50 #[.pointer (some ⟨w.heap.size, 0, none⟩)] EG.out k (l0.length : Int) u _ ?side1 HU.out).mono ?_); (case side1 => intro i' j' t W' hF hb; exact part_cell l0 i' j' t A0 c0 w.heap.size W' hF (tab_bx hb x0 x2.out) (Kd.C_below HR0.out (below_step (by repeat (first | (with_reducible first | exact HB.out | apply below_alloc | apply pw_below_drewN | apply below_drew1) | exact HB.out)) hb))); rintro e w2 ⟨v152, rfl, ho, hb⟩; have HO_5 := Aside0.mk (show Kd.S (Kd.slice 3 (Kd.int .i64)) 24 w2 w.heap.size (fun _ => True) v152 u from Kd.S_lower ho (below_size (by repeat (first | (with_reducible first | exact HB.out | apply below_alloc | apply pw_below_drewN | apply below_drew1) | exact HB.out)))); have HB2 := Aside0.mk (below_step (by repeat (first | (with_reducible first | exact HB.out | apply below_alloc | apply pw_below_drewN | apply below_drew1) | exact HB.out)) hb); clear HB ho hb x0 x2; have HB := HB2; clear HB2; obtain ⟨n1, hn1, hS1⟩ := cut_above HO_5.out; have HNW := Aside0.mk (Nat.le_of_eq hn1); have HBN := Aside0.mk (show w.heap.size ≤ n1 by rw [hn1]; exact HB.out.size); clear HO_5; have HO_5 := Aside0.mk hS1; clear hS1 hn1) | ((with_reducible refine gate_dst (N := 30) rfl ?_); refine Kd.S_lit (Kd.slice 3 (Kd.int .i64)) _ 24 ?hg (N := 30) ?hd (xs := ([] : List (List Int))) (inner := []) (ok := fun k_ => n1 ≤ k_) (okp := fun _ => False) ?hr ?hp (fun _ hk => hk.elim) ?hf (Below.refl _ _) (Nat.le_refl _) (by simp) ?_; (case hd => rfl); (case hg => rfl); (case hr => first | (go_simp; done) | (go_simp; rfl)); (case hp => exact Reps.none _ _); (case hf => exact HNW.out); intro v8_ w30 ho8 hb hg_ hat_; have n0_ := Aside0.mk (Kd.S_below (by (with_reducible repeat (first | apply Kd.S_alloc | apply Kd.S_drewN | apply Kd.S_drew)); exact HO_5.out) hb); have n1_ := Aside0.mk (Kd.S_lower ho8 (below_size (by repeat (first | (with_reducible first | exact HB.out | apply below_alloc | apply pw_below_drewN | apply below_drew1) | exact HB.out)))); have n2_ := Aside0.mk (below_step (by repeat (first | (with_reducible first | exact HB.out | apply below_alloc | apply pw_below_drewN | apply below_drew1) | exact HB.out)) hb); have n3_ := Aside0.mk (Nat.le_trans HNW.out hb.size); clear HO_5 HB HNW ho8 hb hg_ hat_; have HO_5 := n0_; have HO_8 := n1_; have HB := n2_; have HNW := n3_; clear n0_ n1_ n2_ n3_) | ((with_reducible refine gate_dst (N := 31) rfl ?_); refine Kd.R_lit (Kd.int .i64) _ 3 ?hg (N := 31) ?hd (xs := ([] : List Int)) (inner := []) (ok := fun k_ => n1 ≤ k_) (okp := fun _ => False) ?hr ?hp (fun _ hk => hk.elim) ?hf (Below.refl _ _) (Nat.le_refl _) (by simp) ?_; (case hd => rfl); (case hg => rfl); (case hr => first | (go_simp; done) | (go_simp; rfl)); (case hp => exact Reps.none _ _); (case hf => exact HNW.out); intro v9_ w31 ho9 hb hg_ hat_; have n0_ := Aside0.mk (Kd.S_below (by (with_reducible repeat (first | apply Kd.S_alloc | apply Kd.S_drewN | apply Kd.S_drew)); exact HO_5.out) hb); have n1_ := Aside0.mk (Kd.S_elder' (by (with_reducible repeat (first | apply Kd.S_alloc | apply Kd.S_drewN | apply Kd.S_drew)); exact HO_8.out) (fun k_ h_ => by obtain ⟨b_, e_, hle_⟩ := hat_; rw [e_] at h_; injection h_ with h_; rw [← h_]; exact hle_) hb); have n2_ := Aside0.mk (Kd.R_lower ho9 (below_size (by repeat (first | (with_reducible first | exact HB.out | apply below_alloc | apply pw_below_drewN | apply below_drew1) | exact HB.out)))); have n3_ := Aside0.mk (below_step (by repeat (first | (with_reducible first | exact HB.out | apply below_alloc | apply pw_below_drewN | apply below_drew1) | exact HB.out)) hb); have n4_ := Aside0.mk (Nat.le_trans HNW.out hb.size); clear HO_5 HO_8 HB HNW ho9 hb hg_ hat_; have HO_5 := n0_; have HO_8 := n1_; have HO_9 := n2_; have HB := n3_; have HNW := n4_; clear n0_ n1_ n2_ n3_ n4_))
   go_loopg [8, 9] k (fun kq v8 v9 w' => ∃ (x5_3 : List (List Int)) (x8_3 : List (List Int)) (x9_3 : List Int), Aside0 (impl_PartsOf.l1 kq x5_3 x8_3 x9_3 = some (r1, r2, r3)) ∧ Aside0 (kq ≤ k) ∧ Aside0 (Kd.S (Kd.slice 3 (Kd.int .i64)) 24 w' w.heap.size (fun k_ => k_ < n1) v152 x5_3) ∧ Aside0 (Kd.S (Kd.slice 3 (Kd.int .i64)) 24 w' w.heap.size (fun k_ => n1 ≤ k_ ∧ some k_ ≠ (v9 : Value).ownBlock) v8 x8_3) ∧ Aside0 (Kd.R (Kd.int .i64) 3 w' w.heap.size (fun k_ => n1 ≤ k_) v9 x9_3) ∧ Aside0 (Below w.heap.size w w') ∧ Aside0 (n1 ≤ w'.heap.size))
   case atStart => exact ⟨u, (([] : List (List Int))), (([] : List Int)), H', ⟨Nat.le_refl _⟩, ⟨by (with_reducible repeat (first | apply Kd.S_alloc | apply Kd.S_drewN | apply Kd.S_drew)); exact HO_5.out⟩, ⟨by (with_reducible repeat (first | apply Kd.S_alloc | apply Kd.S_drewN | apply Kd.S_drew)); exact HO_8.out⟩, ⟨by (with_reducible repeat (first | apply Kd.R_alloc | apply Kd.R_drewN | apply Kd.R_drew)); exact HO_9.out⟩, ⟨by repeat (first | (with_reducible first | exact HB.out | apply below_alloc | apply pw_below_drewN | apply below_drew1) | exact HB.out)⟩, HNW⟩
   case round =>
    clear H'
    obtain ⟨x5_3, x8_3, x9_3, HA, HK3, HO_5, HO_8, HO_9, HB, HNW⟩ := hrel
    have HNR := Aside0.mk HNW.out
    obtain ⟨b0, hb0⟩ : ∃ b, b = wr.heap.size := ⟨_, rfl⟩
    have HB0 := Aside0.mk (show n1 ≤ b0 by rw [hb0]; exact HNW.out)
    cases gk with
    | zero => exact absurd HA.out (by simp [impl_PartsOf.l1])
    | succ k3 =>
     have H := HA.out
     clear HA
     simp only [impl_PartsOf.l1] at H
     by_cases hg : 0 < x5_3.length ∧ smallR x5_3 = true
     · rw [if_pos hg] at H
       obtain ⟨hx5, hsm⟩ := hg
       obtain ⟨hl5, hx55⟩ := smallR_spec hsm
       have HL5 := Aside0.mk hl5
       have HX55 := Aside0.mk hx55
       clear hl5 hx55 hsm
       obtain ⟨s, hs, H⟩ := Option.bind_eq_some_iff.mp H
       have A18 := Aside0.mk hs
       clear hs
       obtain ⟨Ao25, co25, eo25⟩ := Kd.S_slice HO_5.out
       subst eo25
       obtain ⟨ad0_, A00_, c00_, e0_, hx0_, hrl0_, hrow0_⟩ := row0_at HO_5.out hx5
       cases e0_
       have hrl_ := Aside0.mk hrl0_
       have hrow_ := Aside0.mk hrow0_
       clear hrl0_ hrow0_
       have hx5b := eq_true hx5
       by_cases c19 : s > 0
       · rw [if_pos c19] at H
         have c19b0 : decide (0 < s) = true := decide_eq_true c19
         clear c19
         obtain ⟨p, hp, H⟩ := Option.bind_eq_some_iff.mp H
         obtain ⟨c, hcl, H⟩ := Option.bind_eq_some_iff.mp H
         obtain ⟨y, hy, H⟩ := Option.bind_eq_some_iff.mp H
         by_cases hb8 : x8_3.length < 1000000 ∧ x9_3.length < 1000000
         · rw [if_pos hb8] at H
           have H' := Aside0.mk H
           have HFP := Aside0.mk hp
           have HCL := Aside0.mk hcl
           have HY := Aside0.mk hy
           have HB8 := Aside0.mk hb8
           clear H hcl hy hb8 hp
           go_wp2_with (first | (go_at_call 51; (refine (impl_total.calls k3 _ _ (rd_L1 x5_3 0) s _ ?side1 ?side2 A18.out).mono ?_); (case side1 => repeat (first | exact hrow_.out | (with_reducible refine Kd.C_alloc ?_ _) | (with_reducible refine Kd.C_drewN ?_ _) | (with_reducible refine Kd.C_drew ?_))); (case side2 => exact hrl_.out); rintro e w' ⟨rfl, ⟨nd, rfl⟩⟩) | (go_at_call 52; (refine (firstPlacing_calls _ _ x5_3 _ ?side1 HL5.out HX55.out).mono ?_); (case side1 => repeat (first | exact (Kd.S_reads' HO_5.out).2.2 | (with_reducible refine Kd.C_alloc ?_ _) | (with_reducible refine Kd.C_drewN ?_ _) | (with_reducible refine Kd.C_drew ?_))); rintro e w20 ⟨⟨v44, rfl, hv⟩, hb⟩; have hRp_ := hv.2 p HFP.out; obtain ⟨Ap_, cp_, ep_⟩ := Kd.R_slice hRp_; subst ep_; have HPR := Aside0.mk (show Kd.R (Kd.int .i64) 3 w20 w.heap.size (fun k_ => b0 ≤ k_) (.slice Ap_ p.length cp_) p from Kd.R_lower (Kd.R_mono (Kd.R_bound hRp_) (fun k_ hk_ => by rw [hb0]; exact hk_.2.1)) (below_size (by repeat (first | (with_reducible first | exact HB.out | apply below_alloc | apply pw_below_drewN | apply below_drew1) | exact HB.out)))); have HP := Aside0.mk (show Kd.V (Kd.int .i64) 3 w20 w.heap.size (fun k_ => b0 ≤ k_) (.slice Ap_ p.length cp_) p from Kd.V_mono (Kd.R_V (Kd.R_bound hRp_)) (fun k_ hk_ => by rw [hb0]; exact hk_.2.1)); have HL8 := Aside0.mk (show ∀ k, (u8 : Value).ownBlock = some k → k < b0 from fun k h_ => by rw [hb0]; exact Kd.S_lt HO_8.out k h_); have HL9 := Aside0.mk (show ∀ k, (u9 : Value).ownBlock = some k → k < b0 from fun k h_ => by rw [hb0]; exact Kd.R_lt HO_9.out k h_); have HS20 := Aside0.mk (show b0 ≤ w20.heap.size by rw [hb0]; exact hb.size); have n0_ := Aside0.mk (Kd.S_below (by (with_reducible repeat (first | apply Kd.S_alloc | apply Kd.S_drewN | apply Kd.S_drew)); exact HO_5.out) hb); have n1_ := Aside0.mk (Kd.S_below (Kd.S_drewN (Kd.S_mono (ok' := fun k_ => (n1 ≤ k_ ∧ some k_ ≠ (u9 : Value).ownBlock) ∧ k_ < b0) (Kd.S_bound HO_8.out) (fun k_ hk_ => ⟨hk_.1, by rw [hb0]; exact hk_.2.2.1⟩)) _) hb); have n2_ := Aside0.mk (Kd.R_below (Kd.R_drewN HO_9.out _) hb); have n3_ := Aside0.mk (below_step (by repeat (first | (with_reducible first | exact HB.out | apply below_alloc | apply pw_below_drewN | apply below_drew1) | exact HB.out)) hb); have n4_ := Aside0.mk (Nat.le_trans HNW.out hb.size); clear HO_5 HO_8 HO_9 HB HNW hb hv hRp_ hx0_ hrow_; have HO_5 := n0_; have HO_8 := n1_; have HO_9 := n2_; have HB := n3_; have HNW := n4_; clear n0_ n1_ n2_ n3_ n4_))

           go_loopg [11, 41] p.length (fun kq v11 v41 w' => ∃ (i : Nat) (a : Int), v11 = .int .i64 a ∧ v41 = .int .i64 (i : Int) ∧ i + kq = p.length ∧ Aside0 (pLeast x5_3 p kq i a = some c) ∧ ∃ nd, w' = w20.drewN nd)
           case atStart => exact ⟨0, 1000000, rfl, by first | rfl | go_num, by omega, HCL, by first | exact ⟨_, rfl⟩ | exact ⟨0, rfl⟩ | exact ⟨1, rfl⟩⟩
           case round =>
            obtain ⟨i, a, rfl, rfl, hik, HL, nd2, rfl⟩ := hrel
            cases gk with
            | succ d =>
             have H := HL.out
             unfold pLeast at H
             by_cases hk : pOk x5_3 p i = true
             · rw [if_pos hk] at H
               have HL2 := Aside0.mk H
               clear H HL
               obtain ⟨ad0_, go0_, cc0_, e0_, ⟨hx0_, hy0_, hf0_⟩, _, _, _⟩ := ent_at (Kd.S_drewN HO_5.out nd2) hk
               cases e0_
               obtain ⟨adp_, ep_, hxp_⟩ := Kd.at_int (Kd.C_drewN (Kd.V_reads' HP.out).2.2 nd2) (i : Int) (Int.natCast_nonneg i) (by omega)
               cases ep_
               rw [Int.toNat_natCast] at hxp_
               obtain ⟨j1_, j2_, j3_⟩ := pOk_iff.1 hk
               have i1_ : ((i : Int) < (p.length : Int)) = True := eq_true (by omega)
               have i1b_ : (i < p.length) = True := eq_true (by omega)
               have i2_ : ((i : Int) < (x5_3.length : Int)) = True := eq_true (by omega)
               replace j1_ := eq_true j1_
               replace j2_ := eq_true j2_
               replace j3_ := eq_true j3_
               have hpl_ : p.length ≤ 9223372036854775807 := (Kd.V_reads' HP.out).2.2.2.1
               go_wp2
               all_goals (
                go_roundg d
                case measure => omega
                case rel => exact ⟨i + 1, min a (pEnt x5_3 p i), by first | rfl | (congr 1; omega) | omega, by first | rfl | (rw [wsucc (show i < p.length by omega) hpl_]; done) | rw [wsucc (show i < p.length by omega) hpl_], by omega, HL2, by first | exact ⟨_, rfl⟩ | exact ⟨0, rfl⟩ | exact ⟨1, rfl⟩⟩)
             · rw [if_neg hk] at H
               cases H
            | zero =>
             have H := HL.out
             unfold pLeast at H
             obtain rfl := Option.some.inj H
             clear H HL
             have i1_ : ((i : Int) < (p.length : Int)) = False := eq_false (by omega)
             have i1b_ : (i < p.length) = False := eq_false (by omega)
             go_wp2
             go_loopg [58] p.length (fun kq v58 w' => ∃ (i : Nat) (z : List (List Int)), v58 = .int .i64 (i : Int) ∧ i + kq = p.length ∧ Aside0 (pSub p a kq i z = some y) ∧ Aside0 (Kd.S (Kd.slice 3 (Kd.int .i64)) 24 w' w.heap.size (fun k_ => k_ < n1) (.slice (some ad0_) x5_3.length co25) z) ∧ Aside0 (KeptUp n1 w20 w') ∧ Aside0 (Below w.heap.size w w'))
             case atStart => exact ⟨0, x5_3, rfl, by omega, HY, ⟨by (with_reducible repeat (first | apply Kd.S_alloc | apply Kd.S_drewN | apply Kd.S_drew)); exact HO_5.out⟩, ⟨KeptUp.refl _ _⟩, ⟨by repeat (first | (with_reducible first | exact HB.out | apply below_alloc | apply pw_below_drewN | apply below_drew1) | exact HB.out)⟩⟩
             case round =>
              clear i1_ i1b_ hik HO_5 HB
              obtain ⟨i, z, rfl, hik, HZ, HO_5, HKU, HB⟩ := hrel
              cases gk with
              | succ d =>
               have H := HZ.out
               unfold pSub at H
               by_cases hk : pOk z p i = true
               · rw [if_pos hk] at H
                 have HZ2 := Aside0.mk H
                 clear H HZ
                 obtain ⟨ad1_, go1_, cc1_, e1_, ⟨hx1_, hy1_, hf1_⟩, hg1_, hn1_, hne1_⟩ := ent_at HO_5.out hk
                 cases e1_
                 obtain ⟨k1_, k2_⟩ := ent_put HO_5.out hk hx1_ (wrap64 (pEnt z p i - a))
                 obtain ⟨adp_, ep_, hxp_⟩ := Kd.at_int (Kd.V_reads' (Kd.V_step HP.out (fun k_ hk_ hl_ => HKU.out.2 k_ (Nat.le_trans HB0.out hk_) hl_))).2.2 (i : Int) (Int.natCast_nonneg i) (by omega)
                 cases ep_
                 rw [Int.toNat_natCast] at hxp_
                 obtain ⟨j1_, j2_, j3_⟩ := pOk_iff.1 hk
                 have i1_ : ((i : Int) < (p.length : Int)) = True := eq_true (by omega)
                 have i1b_ : (i < p.length) = True := eq_true (by omega)
                 have hzl_ : x5_3.length = z.length := (Kd.S_reads' HO_5.out).1
                 have i2_ : ((i : Int) < (x5_3.length : Int)) = True := eq_true (by omega)
                 have i2b_ : (i < x5_3.length) = True := eq_true (by omega)
                 clear hzl_
                 replace j1_ := eq_true j1_
                 replace j2_ := eq_true j2_
                 replace j3_ := eq_true j3_
                 have hpl_ : p.length ≤ 9223372036854775807 := (Kd.V_reads' HP.out).2.2.2.1
                 have HK1 := Aside0.mk k1_
                 have HK2 := Aside0.mk k2_
                 have HG1 := Aside0.mk hg1_
                 have HNN1 := Aside0.mk hn1_
                 clear k1_ k2_ hg1_ hn1_ hne1_
                 go_wp2
                 go_roundg d
                 case measure => omega
                 case rel => exact ⟨i + 1, _, by first | rfl | (rw [wsucc (show i < p.length by omega) hpl_]; done) | rw [wsucc (show i < p.length by omega) hpl_], by omega, HZ2, HK1, ⟨KeptUp.grown HKU.out HK2.out HNN1.out⟩, ⟨below_set HB.out HG1.out⟩⟩
               · rw [if_neg hk] at H
                 cases H
              | zero =>
               have H := HZ.out
               unfold pSub at H
               obtain rfl := Option.some.inj H
               clear H HZ
               have i1_ : ((i : Int) < (p.length : Int)) = False := eq_false (by omega)
               have i1b_ : (i < p.length) = False := eq_false (by omega)
               have hz1_ := Aside0.mk (Kd.S_step HO_8.out (fun k_ hk_ hl_ => HKU.out.2 k_ hk_.1.1 hl_))
               have hz2_ := Aside0.mk (Kd.R_step HO_9.out (fun k_ hk_ hl_ => HKU.out.2 k_ hk_ hl_))
               have hz3_ := Aside0.mk (Kd.V_step HP.out (fun k_ hk_ hl_ => HKU.out.2 k_ (Nat.le_trans HB0.out hk_) hl_))
               have hz4_ := Aside0.mk (Nat.le_trans HS20.out HKU.out.1)
               have hz5_ := Aside0.mk (Kd.R_step HPR.out (fun k_ hk_ hl_ => HKU.out.2 k_ (Nat.le_trans HB0.out hk_) hl_))
               clear HO_8 HO_9 HP HPR HKU
               have HO_8 := hz1_
               have HO_9 := hz2_
               have HP := hz3_
               have HPR := hz5_
               clear hz1_ hz2_ hz3_ hz5_
               go_wp2_with (first | ((with_reducible refine gate_dst (N := 77) rfl ?_); refine Kd.S_append (Kd.slice 3 (Kd.int .i64)) (w0 := w) w.heap.size rfl (.tmp 74) (.tmp 76) 22 24 (.slice none 0 0) 24 rfl Try.underlying22 info24 rfl (by decide) (by omega) u8 x8_3 p [.slice Ap_ p.length cp_] (fun k_ => n1 ≤ k_ ∧ some k_ ≠ (u9 : Value).ownBlock) (fun k_ => b0 ≤ k_) rfl rfl ?aP ?aK ?aF ?aO ?aB ?aS ?aL ?_; (case aP => exact Kd.M_row (by (with_reducible repeat (first | apply Kd.R_alloc | apply Kd.R_drewN | apply Kd.R_drew)); exact HPR.out)); (case aK => exact (fun k_ hk_ => ⟨⟨Nat.le_trans HB0.out hk_, fun e_ => Nat.lt_irrefl _ (Nat.lt_of_lt_of_le (HL9.out k_ e_.symm) hk_)⟩, fun e_ => Nat.lt_irrefl _ (Nat.lt_of_lt_of_le (HL8.out k_ e_.symm) hk_)⟩)); (case aF => exact (fun k_ hk_ => ⟨Nat.le_trans HB0.out (Nat.le_trans hz4_.out hk_), fun e_ => Nat.lt_irrefl _ (Nat.lt_of_lt_of_le (HL9.out k_ e_.symm) (Nat.le_trans hz4_.out hk_))⟩)); (case aO => refine Kd.S_mono (ok := fun k_ => (n1 ≤ k_ ∧ some k_ ≠ (u9 : Value).ownBlock) ∧ k_ < b0) ?_ (fun k_ hk_ => ⟨hk_.1, Nat.not_le_of_lt hk_.2⟩); (with_reducible repeat (first | apply Kd.S_alloc | apply Kd.S_drewN | apply Kd.S_drew)); exact HO_8.out); (case aB => exact (by repeat (first | (with_reducible first | exact HB.out | apply below_alloc | apply pw_below_drewN | apply below_drew1) | exact HB.out))); (case aS => exact HB.out.size); (case aL => have := HB8.out; omega); intro v95 w95 ho hb hg hat; have n0_ := Aside0.mk (Kd.S_grown (by (with_reducible repeat (first | apply Kd.S_alloc | apply Kd.S_drewN | apply Kd.S_drew)); exact HO_5.out) hg (fun k_ hk_ e_ => Nat.lt_irrefl _ (Nat.lt_of_lt_of_le hk_ ((Kd.S_R HO_8.out).1 k_ e_.symm).1.1))); have n1_ := Aside0.mk (Kd.R_mono (ok' := fun k_ => n1 ≤ k_) (Kd.R_grown (Kd.R_tight rfl (by (with_reducible repeat (first | apply Kd.R_alloc | apply Kd.R_drewN | apply Kd.R_drew)); exact HO_9.out)) hg (fun k_ hk_ e_ => ((Kd.S_R HO_8.out).1 k_ e_.symm).1.2 hk_)) (fun k_ hk_ => HO_9.out.1 k_ hk_.symm)); have n2_ := Aside0.mk ho; have n3_ := Aside0.mk hb; have n4_ := Aside0.mk (Nat.le_trans hz4_.out hg.size); clear HO_5 HO_9 HO_8 HB hz4_ ho hb hg hat; have HO_5 := n0_; have HO_9 := n1_; have HO_8 := n2_; have HB := n3_; have hz4_ := n4_; clear n0_ n1_ n2_ n3_ n4_) | ((with_reducible refine gate_dst (N := 81) rfl ?_); refine Kd.R_append (Kd.int .i64) (w0 := w) w.heap.size rfl (.tmp 78) (.tmp 80) 24 3 (.int .i64 0) 8 rfl Try.underlying24 info3 rfl (by decide) (by omega) u9 x9_3 a [.int .i64 a] (fun k_ => n1 ≤ k_) (fun _ => False) rfl rfl ?aP (fun _ hk => hk.elim) ?aF ?aO ?aB ?aS ?aL ?_; (case aP => exact rfl); (case aF => exact (fun k_ hk_ => Nat.le_trans HB0.out (Nat.le_trans hz4_.out hk_))); (case aO => exact (by (with_reducible repeat (first | apply Kd.R_alloc | apply Kd.R_drewN | apply Kd.R_drew)); exact HO_9.out)); (case aB => exact (by repeat (first | (with_reducible first | exact HB.out | apply below_alloc | apply pw_below_drewN | apply below_drew1) | exact HB.out))); (case aS => exact HB.out.size); (case aL => have := HB8.out; omega); intro v97 w97 ho hb hg hat; have n0_ := Aside0.mk (Kd.S_grown (by (with_reducible repeat (first | apply Kd.S_alloc | apply Kd.S_drewN | apply Kd.S_drew)); exact HO_5.out) hg (fun k_ hk_ e_ => Nat.lt_irrefl _ (Nat.lt_of_lt_of_le hk_ (HO_9.out.1 k_ e_.symm)))); have n1_ := Aside0.mk (Kd.S_after (by (with_reducible repeat (first | apply Kd.S_alloc | apply Kd.S_drewN | apply Kd.S_drew)); exact HO_8.out) hg hat); have n2_ := Aside0.mk ho; have n3_ := Aside0.mk hb; have n4_ := Aside0.mk (Nat.le_trans hz4_.out hg.size); clear HO_5 HO_9 HO_8 HB hz4_ ho hb hg hat; have HO_5 := n0_; have HO_8 := n1_; have HO_9 := n2_; have HB := n3_; have hz4_ := n4_; clear n0_ n1_ n2_ n3_ n4_))
               go_roundg k3
               case measure => omega
               case rel => exact ⟨_, x8_3 ++ [p], x9_3 ++ [a], H', ⟨by have := HK3.out; omega⟩, HO_5, HO_8, HO_9, HB, ⟨Nat.le_trans HB0.out hz4_.out⟩⟩
         · rw [if_neg hb8] at H
           cases H
       · rw [if_neg c19] at H
         have c19b0 : decide (0 < s) = false := decide_eq_false c19
         clear c19
         simp only [Option.some.injEq, Prod.mk.injEq] at H
         obtain ⟨rfl, rfl, rfl⟩ := H
         go_wp2_with (go_at_call 51; (refine (impl_total.calls k3 _ _ (rd_L1 x5_3 0) s _ ?side1 ?side2 A18.out).mono ?_); (case side1 => repeat (first | exact hrow_.out | (with_reducible refine Kd.C_alloc ?_ _) | (with_reducible refine Kd.C_drewN ?_ _) | (with_reducible refine Kd.C_drew ?_))); (case side2 => exact hrl_.out); rintro e w' ⟨rfl, ⟨nd, rfl⟩⟩)
         go_ret3
         exact ⟨_, _, rfl, Kd.S_mono (Kd.S_drewN HO_8.out _) (fun k hk => ⟨Nat.le_trans HBN.out hk.1, hk.2⟩), Kd.R_mono (Kd.R_drewN HO_9.out _) (fun _ _ => trivial), (by repeat (first | (with_reducible first | exact HB.out | apply below_alloc | apply pw_below_drewN | apply below_drew1) | exact HB.out))⟩
     · rw [if_neg hg] at H
       cases H
end Go.Proofs.Ytkhpojcplejdjaa.A

/- markIntSS: what it writes into rows of rows that lie apart. -/
namespace Go.Proofs.Ytkhpojcplejdjaa.A
open Go.RowKit Go.Proofs.YtkhpojcplejdjaaW.PrintWords Go.Proofs.YtkhpojcplejdjaaW.PrintLast Go.Proofs.YtkhpojcplejdjaaW.PrintMore
attribute [local go_sem] max2_int min2_int max_two min_two max_three min_three max_four min_four
set_option linter.unusedVariables false
set_option linter.unusedSimpArgs false

def mks (a : Int) (n : Nat) : List Int := (List.range n).map fun (j : Nat) => a + (j : Int)
def totSS (l : List (List Int)) : Nat := (l.map List.length).sum
def markSS : Int → List (List Int) → List (List Int)
 | _, [] => []
 | a, x :: l => mks a x.length :: markSS (a + (x.length : Int)) l
theorem totSS_append (x y : List (List Int)) : totSS (x ++ y) = totSS x + totSS y := by simp [totSS]
theorem totSS_take {l : List (List Int)} {i : Nat} (h : i < l.length) : totSS (l.take (i + 1)) = totSS (l.take i) + (l[i]).length := by
 rw [List.take_succ_eq_append_getElem h, totSS_append]
 simp [totSS]
theorem totSS_le (l : List (List Int)) (i : Nat) : totSS (l.take i) ≤ totSS l := by
 have h := totSS_append (l.take i) (l.drop i)
 rw [List.take_append_drop] at h
 omega
theorem markSS_length : ∀ (a : Int) (l : List (List Int)), (markSS a l).length = l.length
 | _, [] => rfl
 | a, x :: l => by simp [markSS, markSS_length _ l]
theorem markSS_append : ∀ (a : Int) (x y : List (List Int)), markSS a (x ++ y) = markSS a x ++ markSS (a + (totSS x : Int)) y
 | a, [], y => by simp [markSS, totSS]
 | a, z :: x, y => by
  have e : a + (z.length : Int) + (totSS x : Int) = a + (totSS (z :: x) : Int) := by simp [totSS]; omega
  rw [List.cons_append, markSS, markSS_append, markSS, e, List.cons_append]
theorem markSS_step (a : Int) (l : List (List Int)) (i : Nat) (h : i < l.length) : (markSS a (l.take i) ++ l.drop i).set i (mks (a + (totSS (l.take i) : Int)) (l[i]).length) = markSS a (l.take (i + 1)) ++ l.drop (i + 1) := by
 have hl : (markSS a (l.take i)).length = i := by rw [markSS_length, List.length_take]; omega
 rw [List.set_append_right _ _ (by omega), hl, Nat.sub_self, List.drop_eq_getElem_cons h, List.set_cons_zero, List.take_succ_eq_append_getElem h, markSS_append, List.append_assoc]
 rfl
theorem markSS_at (a : Int) (l : List (List Int)) (i : Nat) (h : i < l.length) : (markSS a (l.take i) ++ l.drop i).getD i [] = l[i] := by
 have hl : (markSS a (l.take i)).length = i := by rw [markSS_length, List.length_take]; omega
 rw [List.getD_eq_getElem?_getD, List.getElem?_append_right (by omega), hl, Nat.sub_self, List.getElem?_drop, Nat.add_zero, List.getElem?_eq_getElem h]
 rfl
set_option maxHeartbeats 4000000 in
set_option maxRecDepth 100000 in
theorem markSS_calls (hm : ∀ (xs : List Int) (a : Int), 0 ≤ a → a + (xs.length : Int) ≤ 9223372036854775807 → ∃ k, laws_markIntS.f k xs a = some (a + (xs.length : Int), mks a xs.length)) (P : Nat → Prop) (v : Value) (xs : List (List Int)) (a : Int) (w W : World) (h0 : 0 ≤ a) (hbig : a + (totSS xs : Int) ≤ 4611686018427387903) (hxl : xs.length ≤ 4611686018427387903) (hB : Below w.heap.size w W) (hS : Kd.S (Kd.slice 3 (Kd.int .i64)) 24 W w.heap.size P v xs) :
 Calls Try.prog 13 #[v, .int .i64 a] W fun e w' => e = .returned (.int .i64 (a + (totSS xs : Int))) ∧ Kd.S (Kd.slice 3 (Kd.int .i64)) 24 w' w.heap.size P v (markSS a xs) ∧ Below w.heap.size w w' ∧ Kept W w' P := by
 obtain ⟨A, c, rfl⟩ := Kd.S_slice hS
 go_enter Try.func13, Try.ntmps13
 go_wp2
 go_loopg [1, 5] xs.length (fun g v1 v5 wr => ∃ i : Nat, i ≤ xs.length ∧ xs.length - i ≤ g ∧ v1 = .int .i64 (a + (totSS (xs.take i) : Int)) ∧ v5 = .int .i64 (i : Int) ∧ Aside0 (Kd.S (Kd.slice 3 (Kd.int .i64)) 24 wr w.heap.size P (.slice A xs.length c) (markSS a (xs.take i) ++ xs.drop i)) ∧ Aside0 (Below w.heap.size w wr) ∧ Aside0 (Kept W wr P))
 case atStart => exact ⟨0, Nat.zero_le _, by omega, by simp [totSS], rfl, ⟨by (with_reducible repeat (first | apply Kd.S_alloc | apply Kd.S_drewN | apply Kd.S_drew)); simpa [markSS] using hS⟩, ⟨by repeat (first | (with_reducible first | exact hB | apply below_alloc | apply pw_below_drewN | apply below_drew1) | exact hB)⟩, ⟨by repeat (first | exact Kept.refl _ _ | apply Kept.drewN | apply Kept.drew)⟩⟩
 case round =>
  obtain ⟨i, hi, hg, rfl, rfl, HS, HB, HK⟩ := hrel
  by_cases hlt : i < xs.length
  · have c0 : decide ((i : Int) < (xs.length : Int)) = true := decide_eq_true (by omega)
    have hlen : (markSS a (xs.take i) ++ xs.drop i).length = xs.length := by rw [List.length_append, markSS_length, List.length_take, List.length_drop]; omega
    obtain ⟨g, cap, he, _⟩ := Kd.S_form HS.out (by omega)
    injection he with he1 he2 he3
    subst he1
    obtain ⟨oki, cc, hcl, ⟨vi, hcc, hR⟩, hcell, hoki, hH⟩ := Kd.S_lend HS.out [] (i : Int) (by omega) (by omega)
    subst hcc
    rw [Int.toNat_natCast, markSS_at a xs i hlt] at hR
    have hce := hcell 0 vi rfl
    rw [Int.toNat_natCast] at hce
    have hsz : (Kd.slice 3 (Kd.int .i64)).sz = 1 := rfl
    rw [hsz, Nat.mul_one, Nat.add_zero] at hce
    have hle := totSS_le xs (i + 1)
    rw [totSS_take hlt] at hle
    obtain ⟨k, hk⟩ := hm xs[i] (a + (totSS (xs.take i) : Int)) (by omega) (by omega)
    obtain ⟨Ai, ci, rfl⟩ := Kd.R_slice hR
    have HR := Aside0.mk hR
    have HH := Aside0.mk hH
    have HO := Aside0.mk hoki
    have HKK := Aside0.mk hk
    have p0 : (0 ≤ (i : Int)) = True := eq_true (by omega)
    have q0 : ((i : Int) < (xs.length : Int)) = True := eq_true (by omega)
    clear hR hH hoki hk hcell hlen hle hcl hsz hS hB he2 he3
    go_wp2_with (first | ((with_reducible refine gate_callee (f := 14) rfl ?_); refine goesL_ (some 17) rfl rfl Try.func14 (by kernel_rfl) rfl #[.slice Ai xs[i].length ci, .int .i64 (a + (totSS (xs.take i) : Int))] rfl (by (try simp only [List.map_toArray, List.map_cons, List.map_nil]); first | done | rfl) ?_; (with_reducible refine (laws_markIntS.calls k oki _ xs[i] _ _ _ w _ ?side1 ?side2 HKK.out).mono ?_); (case side1 => repeat (first | (with_reducible first | exact HB.out | apply below_alloc | apply pw_below_drewN | apply below_drew1) | exact HB.out)); (case side2 => (with_reducible repeat (first | apply Kd.R_alloc | apply Kd.R_drewN | apply Kd.R_drew)); exact HR.out); rintro e w27 ⟨rfl, hR2, hb2, hk2⟩; refine ⟨_, rfl, ?_⟩; have HM := Aside0.mk (Kd.R_mono (Kd.R_tight rfl hR2) (fun k hk => HR.out.1 k hk.symm)); have HH2 := Aside0.mk (Kd.H_step (by (with_reducible repeat (first | apply Kd.H_alloc | apply Kd.H_drewN | apply Kd.H_drew)); exact HH.out) (fun k hok hno hlt => hk2.2 k hlt hno)); have HK2 := Aside0.mk (Kept.then_ (by (with_reducible repeat (first | apply Kept.alloc | apply Kept.drewN | apply Kept.drew)); exact HK.out) hk2 (fun k hk => .inl (HO.out k hk).1)); have HB2 := Aside0.mk hb2; clear hR2 hb2 hk2))


    go_roundg (xs.length - (i + 1))
    case measure => omega
    case rel =>
     have hS2 := Kd.H_back HH2.out (x' := mks (a + (totSS (xs.take i) : Int)) xs[i].length) (okp := oki) ⟨_, rfl, HM.out⟩ (fun _ h => h)
     rw [Int.toNat_natCast, markSS_step a xs i hlt] at hS2
     exact ⟨i + 1, by omega, by omega, by rw [totSS_take hlt]; first | (congr 1; omega) | (congr 2; omega), by first | rfl | (rw [show wrap64 ((i : Int) + 1) = ((i + 1 : Nat) : Int) from by rw [wrap64]; omega]) , ⟨by (with_reducible repeat (first | apply Kd.S_alloc | apply Kd.S_drewN | apply Kd.S_drew)); exact hS2⟩, ⟨by repeat (first | (with_reducible first | exact HB2.out | apply below_alloc | apply pw_below_drewN | apply below_drew1) | exact HB2.out)⟩, ⟨by (with_reducible repeat (first | apply Kept.alloc | apply Kept.drewN | apply Kept.drew)); exact HK2.out⟩⟩
  · have hi' : i = xs.length := by omega
    have c0 : decide ((i : Int) < (xs.length : Int)) = false := decide_eq_false (by omega)
    subst hi'
    have HS' : Kd.S (Kd.slice 3 (Kd.int .i64)) 24 wr w.heap.size P (.slice A xs.length c) (markSS a xs) := by
     have := HS.out
     rw [List.take_of_length_le (Nat.le_refl _), List.drop_eq_nil_of_le (Nat.le_refl _), List.append_nil] at this
     exact this
    go_wp2
    go_ret
    exact ⟨by (try rw [List.take_of_length_le (Nat.le_refl _)]); rfl, HS', HB.out, HK.out⟩
end Go.Proofs.Ytkhpojcplejdjaa.A

-- made by a program of this repo (wip/pp.py) through the kit's printer
namespace Go.Proofs.Ytkhpojcplejdjaa.A
open Go.RowKit Go.Proofs.YtkhpojcplejdjaaW.PrintWords Go.Proofs.YtkhpojcplejdjaaW.PrintLast Go.Proofs.YtkhpojcplejdjaaW.PrintMore
attribute [local go_sem] max2_int min2_int max_two min_two max_three min_three max_four min_four
set_option linter.unusedVariables false
set_option linter.unusedSimpArgs false

/-! ### spec_doGood: function 41 -/
def spec_doGood.l0 : Nat → List (List Int) → List (List Int) → Int → Int → Option (Bool)
 | 0, _, _, _, _ => none
 | k + 1, x0, x5, x6, x7 => if x7 < x6 then (if 0 ≤ x7 then (if x7 < (x5.length : Int) then (if ((rd_L1 x5 x7).length : Int) = (x0.length : Int) then ((spec_l1All.f k (rd_L1 x5 x7) 0 1000000).bind fun t106 => (if t106 = true then (spec_doGood.l0 k x0 x5 x6 (wrap64 (x7 + 1))) else (some false))) else (some false)) else (none)) else (none)) else ((spec_l1In.f (x0.length : Int) 1 6).bind fun t107 => (some t107))
def spec_doGood.f (k : Nat) (l0 : List (List Int)) : Option (Bool) := spec_doGood.l0 k l0 l0 (l0.length : Int) 0
set_option maxHeartbeats 8000000 in
set_option maxRecDepth 100000 in
theorem spec_doGood.calls (k : Nat) (A0 : Option Addr) (c0 : Nat) (l0 : List (List Int)) (r : Bool) (w : World) (hr0 : Kd.C (Kd.slice 3 (Kd.int .i64)) w A0 l0.length l0) (hc0 : l0.length ≤ c0) (h : spec_doGood.f k l0 = some r) :
 Calls Try.prog 41 #[.slice A0 l0.length c0] w fun e w' => e = .returned (.bool r) ∧ Drawn0 w w' := by
 have HR0 := Aside0.mk hr0
 have HC0 := Aside0.mk hc0
 clear hr0 hc0
 have H : (spec_doGood.l0 k l0 l0 (l0.length : Int) 0) = some r := h
 clear h
 have H' := Aside0.mk H
 clear H
 go_enter Try.func41, Try.ntmps41
 go_wp2
 go_loopg [7] k (fun kq v7 w' => ∃ (x7_1 : Int), v7 = .int .i64 x7_1 ∧ Aside0 (spec_doGood.l0 kq l0 l0 (l0.length : Int) x7_1 = some r) ∧ Aside0 (kq ≤ k) ∧ Drawn0 w w')
 case atStart => exact ⟨(0), (by first | rfl | (simp; done) | (simp [*]; done)), H', ⟨Nat.le_refl _⟩, by repeat (first | exact Drawn0.refl _ | apply Drawn0.step)⟩
 case round =>
  clear H'
  obtain ⟨x7_1, rfl, HA, HK1, ⟨m1, rfl⟩⟩ := hrel
  cases gk with
  | zero => exact absurd HA.out (by simp [spec_doGood.l0])
  | succ k1 =>
   have H := HA.out
   clear HA
   simp only [spec_doGood.l0] at H
   by_cases c2 : x7_1 < (l0.length : Int)
   · rw [if_pos c2] at H
     have c2b0 : decide (x7_1 < (l0.length : Int)) = true := decide_eq_true c2
     clear c2
     by_cases c3 : 0 ≤ x7_1
     · rw [if_pos c3] at H
       have c3b0 : decide (0 ≤ x7_1) = true := decide_eq_true c3
       clear c3
       by_cases c4 : x7_1 < (l0.length : Int)
       · rw [if_pos c4] at H
         have c4b0 : decide (x7_1 < (l0.length : Int)) = true := decide_eq_true c4
         clear c4
         by_cases c5 : ((rd_L1 l0 x7_1).length : Int) = (l0.length : Int)
         · rw [if_pos c5] at H
           have c5b0 : (((rd_L1 l0 x7_1).length : Int) == (l0.length : Int)) = true := beq_iff_eq.mpr c5
           have c5b1 : (((rd_L1 l0 x7_1).length : Int) != (l0.length : Int)) = false := bne_eq_false_iff_eq.mpr c5
           have c5b2 : ((rd_L1 l0 x7_1).length == l0.length) = true := by first | simpa using c5 | (simp at c5 ⊢; omega)
           clear c5
           replace H := Option.bind_eq_some_iff.mp H
           obtain ⟨t106, A60, H⟩ := H
           replace H : (if t106 = true then (spec_doGood.l0 k1 l0 l0 (l0.length : Int) (wrap64 (x7_1 + 1))) else (some false)) = some r := H
           have A6 := Aside0.mk A60
           clear A60
           by_cases c7 : t106 = true
           · subst c7
             have H1 : (spec_doGood.l0 k1 l0 l0 (l0.length : Int) (wrap64 (x7_1 + 1))) = some r := by rw [if_pos rfl] at H; exact H
             clear H
             have H := H1
             clear H1
             have H' := Aside0.mk H
             clear H
             have p105 : 0 ≤ (x7_1 : Int) := of_decide_eq_true (by first | (with_reducible assumption) | assumption)
             have q105 : x7_1 < (l0.length : Int) := of_decide_eq_true (by first | (with_reducible assumption) | assumption)
             obtain ⟨ad105, A105_0, c105_0, e105, hx105_0, hl105_0, hi105_0⟩ := at_L1 HR0.out x7_1 p105 q105
             cases e105
             have HR105_0 := Aside0.mk hi105_0
             have HC105_0 := Aside0.mk hl105_0
             clear hi105_0 hl105_0
             replace p105 := eq_true p105
             replace q105 := eq_true q105
             go_wp2_with (first | (go_at_call 77; (with_reducible refine (spec_l1All.calls k1 _ _ (rd_L1 l0 x7_1) 0 1000000 true _ ?side1 ?side2 A6.out).mono ?_); (case side1 => repeat (first | exact HR105_0.out | (with_reducible refine Kd.C_alloc ?_ _) | (with_reducible refine Kd.C_drewN ?_ _) | (with_reducible refine Kd.C_drew ?_))); (case side2 => exact HC105_0.out); rintro e w' ⟨rfl, ⟨nd, rfl⟩⟩))
             go_roundg k1
             case measure => have := HK1.out; omega
             case rel => exact ⟨(wrap64 (x7_1 + 1)), (by first | rfl | (simp; done) | (simp [*]; done)), H', ⟨by have := HK1.out; omega⟩, by repeat (first | exact Drawn0.refl _ | apply Drawn0.step)⟩
           · replace c7 := Bool.eq_false_iff.mpr c7
             subst c7
             have H1 : (some false) = some r := by rw [if_neg (show ¬ (false = true) by decide)] at H; exact H
             clear H
             have H := H1
             clear H1
             obtain rfl := Option.some.inj H
             have p105 : 0 ≤ (x7_1 : Int) := of_decide_eq_true (by first | (with_reducible assumption) | assumption)
             have q105 : x7_1 < (l0.length : Int) := of_decide_eq_true (by first | (with_reducible assumption) | assumption)
             obtain ⟨ad105, A105_0, c105_0, e105, hx105_0, hl105_0, hi105_0⟩ := at_L1 HR0.out x7_1 p105 q105
             cases e105
             have HR105_0 := Aside0.mk hi105_0
             have HC105_0 := Aside0.mk hl105_0
             clear hi105_0 hl105_0
             replace p105 := eq_true p105
             replace q105 := eq_true q105
             go_wp2_with (first | (go_at_call 77; (with_reducible refine (spec_l1All.calls k1 _ _ (rd_L1 l0 x7_1) 0 1000000 false _ ?side1 ?side2 A6.out).mono ?_); (case side1 => repeat (first | exact HR105_0.out | (with_reducible refine Kd.C_alloc ?_ _) | (with_reducible refine Kd.C_drewN ?_ _) | (with_reducible refine Kd.C_drew ?_))); (case side2 => exact HC105_0.out); rintro e w' ⟨rfl, ⟨nd, rfl⟩⟩))
             go_ret
             exact ⟨by first | rfl | (simp; done) | (simp [*]; done), by repeat (first | exact Drawn0.refl _ | apply Drawn0.step)⟩
         · rw [if_neg c5] at H
           have c5b0 : (((rd_L1 l0 x7_1).length : Int) == (l0.length : Int)) = false := beq_eq_false_iff_ne.mpr c5
           have c5b1 : (((rd_L1 l0 x7_1).length : Int) != (l0.length : Int)) = true := bne_iff_ne.mpr c5
           have c5b2 : ((rd_L1 l0 x7_1).length == l0.length) = false := by first | simpa using c5 | (simp at c5 ⊢; omega)
           obtain rfl := Option.some.inj H
           have p105 : 0 ≤ (x7_1 : Int) := of_decide_eq_true (by first | (with_reducible assumption) | assumption)
           have q105 : x7_1 < (l0.length : Int) := of_decide_eq_true (by first | (with_reducible assumption) | assumption)
           obtain ⟨ad105, A105_0, c105_0, e105, hx105_0, hl105_0, hi105_0⟩ := at_L1 HR0.out x7_1 p105 q105
           cases e105
           have HR105_0 := Aside0.mk hi105_0
           have HC105_0 := Aside0.mk hl105_0
           clear hi105_0 hl105_0
           replace p105 := eq_true p105
           replace q105 := eq_true q105
           go_wp2
           go_ret
           exact ⟨by first | rfl | (simp; done) | (simp [*]; done), by repeat (first | exact Drawn0.refl _ | apply Drawn0.step)⟩
       · rw [if_neg c4] at H
         exact absurd H (by simp)
     · rw [if_neg c3] at H
       exact absurd H (by simp)
   · rw [if_neg c2] at H
     have c2b0 : decide (x7_1 < (l0.length : Int)) = false := decide_eq_false c2
     clear c2
     replace H := Option.bind_eq_some_iff.mp H
     obtain ⟨t107, A80, H⟩ := H
     replace H : (some t107) = some r := H
     have A8 := Aside0.mk A80
     clear A80
     obtain rfl := Option.some.inj H
     go_wp2_with (first | ((with_reducible refine gate_callee (f := 64) rfl ?_); refine goesL_ (some 24) rfl rfl Try.func64 (by kernel_rfl) rfl #[.int .i64 (l0.length : Int), .int .i64 1, .int .i64 6] rfl (by (try simp only [List.map_toArray, List.map_cons, List.map_nil]); first | done | rfl | (simp only [List.length_drop, List.length_take]; rfl)) ?_; (with_reducible refine (spec_l1In.calls (l0.length : Int) 1 6 t107 _ A8.out).mono ?_); rintro e w' ⟨rfl, ⟨nd, rfl⟩⟩; refine ⟨_, rfl, ?_⟩))
     go_ret
     exact ⟨by first | rfl | (simp; done) | (simp [*]; done), by repeat (first | exact Drawn0.refl _ | apply Drawn0.step)⟩

end Go.Proofs.Ytkhpojcplejdjaa.A

-- made by a program of this repo (wip/pp.py) through the kit's printer
namespace Go.Proofs.Ytkhpojcplejdjaa.A
open Go.RowKit Go.Proofs.YtkhpojcplejdjaaW.PrintWords Go.Proofs.YtkhpojcplejdjaaW.PrintLast Go.Proofs.YtkhpojcplejdjaaW.PrintMore
attribute [local go_sem] max2_int min2_int max_two min_two max_three min_three max_four min_four
set_option linter.unusedVariables false
set_option linter.unusedSimpArgs false

/-! ### spec_liSum: function 92 -/
def spec_liSum.l0 : Nat → Int → List Int → Int → Int → Option (Int)
 | 0, _, _, _, _ => none
 | k + 1, x3, x6, x7, x8 => if x8 < x7 then (if 0 ≤ x8 then (if x8 < (x6.length : Int) then (spec_liSum.l0 k (wrap64 (x3 + (rd x6 x8))) x6 x7 (wrap64 (x8 + 1))) else (none)) else (none)) else (some x3)
def spec_liSum.f (k : Nat) (l0 : List Int) : Option (Int) := spec_liSum.l0 k 0 l0 (l0.length : Int) 0
set_option maxHeartbeats 8000000 in
set_option maxRecDepth 100000 in
theorem spec_liSum.calls (k : Nat) (A0 : Option Addr) (c0 : Nat) (l0 : List Int) (r : Int) (w : World) (hr0 : Kd.C (Kd.int .i64) w A0 l0.length l0) (hc0 : l0.length ≤ c0) (h : spec_liSum.f k l0 = some r) :
 Calls Try.prog 92 #[.slice A0 l0.length c0] w fun e w' => e = .returned (.int .i64 r) ∧ Drawn0 w w' := by
 have HR0 := Aside0.mk hr0
 have HC0 := Aside0.mk hc0
 clear hr0 hc0
 have H : (spec_liSum.l0 k 0 l0 (l0.length : Int) 0) = some r := h
 clear h
 have H' := Aside0.mk H
 clear H
 go_enter Try.func92, Try.ntmps92
 go_wp2
 go_loopg [3, 8] k (fun kq v3 v8 w' => ∃ (x3_1 : Int) (x8_1 : Int), v3 = .int .i64 x3_1 ∧ v8 = .int .i64 x8_1 ∧ Aside0 (spec_liSum.l0 kq x3_1 l0 (l0.length : Int) x8_1 = some r) ∧ Aside0 (kq ≤ k) ∧ Drawn0 w w')
 case atStart => exact ⟨(0), (0), (by first | rfl | (simp; done) | (simp [*]; done)), (by first | rfl | (simp; done) | (simp [*]; done)), H', ⟨Nat.le_refl _⟩, by repeat (first | exact Drawn0.refl _ | apply Drawn0.step)⟩
 case round =>
  clear H'
  obtain ⟨x3_1, x8_1, rfl, rfl, HA, HK1, ⟨m1, rfl⟩⟩ := hrel
  cases gk with
  | zero => exact absurd HA.out (by simp [spec_liSum.l0])
  | succ k1 =>
   have H := HA.out
   clear HA
   simp only [spec_liSum.l0] at H
   by_cases c2 : x8_1 < (l0.length : Int)
   · rw [if_pos c2] at H
     have c2b0 : decide (x8_1 < (l0.length : Int)) = true := decide_eq_true c2
     clear c2
     by_cases c3 : 0 ≤ x8_1
     · rw [if_pos c3] at H
       have c3b0 : decide (0 ≤ x8_1) = true := decide_eq_true c3
       clear c3
       by_cases c4 : x8_1 < (l0.length : Int)
       · rw [if_pos c4] at H
         have c4b0 : decide (x8_1 < (l0.length : Int)) = true := decide_eq_true c4
         clear c4
         have H' := Aside0.mk H
         clear H
         have p108 : 0 ≤ (x8_1 : Int) := of_decide_eq_true (by first | (with_reducible assumption) | assumption)
         have q108 : x8_1 < (l0.length : Int) := of_decide_eq_true (by first | (with_reducible assumption) | assumption)
         obtain ⟨ad108, e108, hx108_0⟩ := Kd.at_int HR0.out x8_1 p108 q108
         cases e108
         replace p108 := eq_true p108
         replace q108 := eq_true q108
         go_wp2
         go_roundg k1
         case measure => have := HK1.out; omega
         case rel => exact ⟨(wrap64 (x3_1 + (rd l0 x8_1))), (wrap64 (x8_1 + 1)), (by first | rfl | (simp; done) | (simp [*]; done)), (by first | rfl | (simp; done) | (simp [*]; done)), H', ⟨by have := HK1.out; omega⟩, by repeat (first | exact Drawn0.refl _ | apply Drawn0.step)⟩
       · rw [if_neg c4] at H
         exact absurd H (by simp)
     · rw [if_neg c3] at H
       exact absurd H (by simp)
   · rw [if_neg c2] at H
     have c2b0 : decide (x8_1 < (l0.length : Int)) = false := decide_eq_false c2
     clear c2
     obtain rfl := Option.some.inj H
     go_wp2
     go_ret
     exact ⟨by first | rfl | (simp; done) | (simp [*]; done), by repeat (first | exact Drawn0.refl _ | apply Drawn0.step)⟩

end Go.Proofs.Ytkhpojcplejdjaa.A

-- made by a program of this repo (wip/pp.py) through the kit's printer
namespace Go.Proofs.Ytkhpojcplejdjaa.A
open Go.RowKit Go.Proofs.YtkhpojcplejdjaaW.PrintWords Go.Proofs.YtkhpojcplejdjaaW.PrintLast Go.Proofs.YtkhpojcplejdjaaW.PrintMore
attribute [local go_sem] max2_int min2_int max_two min_two max_three min_three max_four min_four
set_option linter.unusedVariables false
set_option linter.unusedSimpArgs false

/-! ### spec_doSum: function 42 -/
mutual
def spec_doSum.l0 : Nat → List (List Int) → Int → List (List Int) → Int → Int → Option (Int)
 | 0, _, _, _, _, _ => none
 | k + 1, x0, x3, x13, x14, x15 => if x15 < x14 then (if 0 ≤ x15 then (if x15 < (x13.length : Int) then (spec_doSum.l1 k x0 x3 x15 (rd_L1 x13 x15) 0 x13 x14 x15 x0 (x0.length : Int) 0) else (none)) else (none)) else (some x3)
def spec_doSum.l1 : Nat → List (List Int) → Int → Int → List Int → Int → List (List Int) → Int → Int → List (List Int) → Int → Int → Option (Int)
 | 0, _, _, _, _, _, _, _, _, _, _, _ => none
 | k + 1, x0, x3, x4, x5, x6, x13, x14, x15, x20, x21, x22 => if x22 < x21 then (if 0 ≤ x22 then (if x22 < (x20.length : Int) then (if 0 ≤ x4 then (if x4 < ((rd_L1 x20 x22).length : Int) then (spec_doSum.l1 k x0 x3 x4 x5 (wrap64 (x6 + (rd (rd_L1 x20 x22) x4))) x13 x14 x15 x20 x21 (wrap64 (x22 + 1))) else (none)) else (none)) else (none)) else (none)) else ((spec_liSum.f k x5).bind fun t114 => (if t114 = x3 then (if x6 = x3 then (spec_doSum.l0 k x0 x3 x13 x14 (wrap64 (x15 + 1))) else (some (-1))) else (some (-1))))
end
def spec_doSum.f (k : Nat) (l0 : List (List Int)) : Option (Int) := if 0 < (l0.length : Int) then ((spec_liSum.f k (rd_L1 l0 0)).bind fun t110 => (spec_doSum.l0 k l0 t110 l0 (l0.length : Int) 0)) else (none)
set_option maxHeartbeats 8000000 in
set_option maxRecDepth 100000 in
theorem spec_doSum.calls (k : Nat) (A0 : Option Addr) (c0 : Nat) (l0 : List (List Int)) (r : Int) (w : World) (hr0 : Kd.C (Kd.slice 3 (Kd.int .i64)) w A0 l0.length l0) (hc0 : l0.length ≤ c0) (h : spec_doSum.f k l0 = some r) :
 Calls Try.prog 42 #[.slice A0 l0.length c0] w fun e w' => e = .returned (.int .i64 r) ∧ Drawn0 w w' := by
 have HR0 := Aside0.mk hr0
 have HC0 := Aside0.mk hc0
 clear hr0 hc0
 have H : (if 0 < (l0.length : Int) then ((spec_liSum.f k (rd_L1 l0 0)).bind fun t110 => (spec_doSum.l0 k l0 t110 l0 (l0.length : Int) 0)) else (none)) = some r := h
 clear h
 by_cases c2 : 0 < (l0.length : Int)
 · rw [if_pos c2] at H
   have c2b0 : decide (0 < (l0.length : Int)) = true := decide_eq_true c2
   have c2b1 : decide (0 < l0.length) = true := decide_eq_true (by omega)
   clear c2
   replace H := Option.bind_eq_some_iff.mp H
   obtain ⟨t110, A30, H⟩ := H
   replace H : (spec_doSum.l0 k l0 t110 l0 (l0.length : Int) 0) = some r := H
   have A3 := Aside0.mk A30
   clear A30
   have H' := Aside0.mk H
   clear H
   have p109 : 0 ≤ (0 : Int) := (by omega)
   have q109 : 0 < (l0.length : Int) := of_decide_eq_true (by first | (with_reducible assumption) | assumption)
   obtain ⟨ad109, A109_0, c109_0, e109, hx109_0, hl109_0, hi109_0⟩ := at_L1 HR0.out 0 p109 q109
   cases e109
   have qi109 : (0 < l0.length) = True := eq_true (by omega)
   (try rw [show ((0 : Int)).toNat = 0 from rfl] at hx109_0)
   (try rw [Addr.add_zero'] at hx109_0)
   have HR109_0 := Aside0.mk hi109_0
   have HC109_0 := Aside0.mk hl109_0
   clear hi109_0 hl109_0
   replace p109 := eq_true p109
   replace q109 := eq_true q109
   go_enter Try.func42, Try.ntmps42
   go_wp2_with (first | ((with_reducible refine gate_callee (f := 92) rfl ?_); refine goesL_ (some 12) rfl rfl Try.func92 (by kernel_rfl) rfl #[.slice A109_0 (rd_L1 l0 0).length c109_0] rfl (by (try simp only [List.map_toArray, List.map_cons, List.map_nil]); first | done | rfl | (simp only [List.length_drop, List.length_take]; rfl)) ?_; (with_reducible refine (spec_liSum.calls k _ _ (rd_L1 l0 0) t110 _ ?side1 ?side2 A3.out).mono ?_); (case side1 => repeat (first | exact HR109_0.out | (with_reducible refine Kd.C_alloc ?_ _) | (with_reducible refine Kd.C_drewN ?_ _) | (with_reducible refine Kd.C_drew ?_))); (case side2 => exact HC109_0.out); rintro e w' ⟨rfl, ⟨nd, rfl⟩⟩; refine ⟨_, rfl, ?_⟩))
   go_loopg [15] k (fun kq v15 w' => ∃ (x15_1 : Int), v15 = .int .i64 x15_1 ∧ Aside0 (spec_doSum.l0 kq l0 t110 l0 (l0.length : Int) x15_1 = some r) ∧ Aside0 (kq ≤ k) ∧ Drawn0 w w')
   case atStart => exact ⟨(0), (by first | rfl | (simp; done) | (simp [*]; done)), H', ⟨Nat.le_refl _⟩, by repeat (first | exact Drawn0.refl _ | apply Drawn0.step)⟩
   case round =>
    clear H'
    try clear c1
    try clear p1
    try clear q1
    try clear hx1
    try clear qi1
    try clear c2
    try clear c2b0
    try clear c2b1
    try clear p2
    try clear hx109_0
    try clear p109
    try clear q109
    obtain ⟨x15_1, rfl, HA, HK1, ⟨m1, rfl⟩⟩ := hrel
    cases gk with
    | zero => exact absurd HA.out (by simp [spec_doSum.l0])
    | succ k1 =>
     have H := HA.out
     clear HA
     simp only [spec_doSum.l0] at H
     by_cases c4 : x15_1 < (l0.length : Int)
     · rw [if_pos c4] at H
       have c4b0 : decide (x15_1 < (l0.length : Int)) = true := decide_eq_true c4
       clear c4
       by_cases c5 : 0 ≤ x15_1
       · rw [if_pos c5] at H
         have c5b0 : decide (0 ≤ x15_1) = true := decide_eq_true c5
         clear c5
         by_cases c6 : x15_1 < (l0.length : Int)
         · rw [if_pos c6] at H
           have c6b0 : decide (x15_1 < (l0.length : Int)) = true := decide_eq_true c6
           clear c6
           have H' := Aside0.mk H
           clear H
           have p111 : 0 ≤ (x15_1 : Int) := of_decide_eq_true (by first | (with_reducible assumption) | assumption)
           have q111 : x15_1 < (l0.length : Int) := of_decide_eq_true (by first | (with_reducible assumption) | assumption)
           obtain ⟨ad111, A111_0, c111_0, e111, hx111_0, hl111_0, hi111_0⟩ := at_L1 HR0.out x15_1 p111 q111
           obtain rfl : ad109 = ad111 := (by injection e111)
           have HR111_0 := Aside0.mk hi111_0
           have HC111_0 := Aside0.mk hl111_0
           clear hi111_0 hl111_0
           replace p111 := eq_true p111
           replace q111 := eq_true q111
           go_wp2
           go_loopg [6, 22] k1 (fun kq v6 v22 w' => ∃ (x6_2 : Int) (x22_2 : Int), v6 = .int .i64 x6_2 ∧ v22 = .int .i64 x22_2 ∧ Aside0 (spec_doSum.l1 kq l0 t110 x15_1 (rd_L1 l0 x15_1) x6_2 l0 (l0.length : Int) x15_1 l0 (l0.length : Int) x22_2 = some r) ∧ Aside0 (kq ≤ k1) ∧ Drawn0 w w')
           case atStart => exact ⟨(0), (0), (by first | rfl | (simp; done) | (simp [*]; done)), (by first | rfl | (simp; done) | (simp [*]; done)), H', ⟨Nat.le_refl _⟩, by repeat (first | exact Drawn0.refl _ | apply Drawn0.step)⟩
           case round =>
            clear H'
            try clear c1
            try clear p1
            try clear q1
            try clear hx1
            try clear qi1
            try clear c2
            try clear c2b0
            try clear c2b1
            try clear p2
            try clear c4
            try clear c4b0
            try clear c5
            try clear c5b0
            try clear c6
            try clear c6b0
            try clear hx109_0
            try clear hx111_0
            try clear p1
            try clear p109
            try clear p111
            try clear p2
            try clear q1
            try clear q109
            try clear q111
            obtain ⟨x6_2, x22_2, rfl, rfl, HA, HK2, ⟨m2, rfl⟩⟩ := hrel
            cases gk with
            | zero => exact absurd HA.out (by simp [spec_doSum.l1])
            | succ k2 =>
             have H := HA.out
             clear HA
             simp only [spec_doSum.l1] at H
             by_cases c7 : x22_2 < (l0.length : Int)
             · rw [if_pos c7] at H
               have c7b0 : decide (x22_2 < (l0.length : Int)) = true := decide_eq_true c7
               clear c7
               by_cases c8 : 0 ≤ x22_2
               · rw [if_pos c8] at H
                 have c8b0 : decide (0 ≤ x22_2) = true := decide_eq_true c8
                 clear c8
                 by_cases c9 : x22_2 < (l0.length : Int)
                 · rw [if_pos c9] at H
                   have c9b0 : decide (x22_2 < (l0.length : Int)) = true := decide_eq_true c9
                   clear c9
                   by_cases c10 : 0 ≤ x15_1
                   · rw [if_pos c10] at H
                     have c10b0 : decide (0 ≤ x15_1) = true := decide_eq_true c10
                     clear c10
                     by_cases c11 : x15_1 < ((rd_L1 l0 x22_2).length : Int)
                     · rw [if_pos c11] at H
                       have c11b0 : decide (x15_1 < ((rd_L1 l0 x22_2).length : Int)) = true := decide_eq_true c11
                       clear c11
                       have H' := Aside0.mk H
                       clear H
                       have p112 : 0 ≤ (x22_2 : Int) := of_decide_eq_true (by first | (with_reducible assumption) | assumption)
                       have q112 : x22_2 < (l0.length : Int) := of_decide_eq_true (by first | (with_reducible assumption) | assumption)
                       obtain ⟨ad112, A112_0, c112_0, e112, hx112_0, hl112_0, hi112_0⟩ := at_L1 HR0.out x22_2 p112 q112
                       obtain rfl : ad109 = ad112 := (by injection e112)
                       have HR112_0 := Aside0.mk hi112_0
                       have HC112_0 := Aside0.mk hl112_0
                       clear hi112_0 hl112_0
                       replace p112 := eq_true p112
                       replace q112 := eq_true q112
                       have p113 : 0 ≤ (x15_1 : Int) := of_decide_eq_true (by first | (with_reducible assumption) | assumption)
                       have q113 : x15_1 < ((rd_L1 l0 x22_2).length : Int) := of_decide_eq_true (by first | (with_reducible assumption) | assumption)
                       obtain ⟨ad113, e113, hx113_0⟩ := Kd.at_int HR112_0.out x15_1 p113 q113
                       cases e113
                       replace p113 := eq_true p113
                       replace q113 := eq_true q113
                       go_wp2
                       go_roundg k2
                       case measure => have := HK1.out; have := HK2.out; omega
                       case rel => exact ⟨(wrap64 (x6_2 + (rd (rd_L1 l0 x22_2) x15_1))), (wrap64 (x22_2 + 1)), (by first | rfl | (simp; done) | (simp [*]; done)), (by first | rfl | (simp; done) | (simp [*]; done)), H', ⟨by have := HK1.out; have := HK2.out; omega⟩, by repeat (first | exact Drawn0.refl _ | apply Drawn0.step)⟩
                     · rw [if_neg c11] at H
                       exact absurd H (by simp)
                   · rw [if_neg c10] at H
                     exact absurd H (by simp)
                 · rw [if_neg c9] at H
                   exact absurd H (by simp)
               · rw [if_neg c8] at H
                 exact absurd H (by simp)
             · rw [if_neg c7] at H
               have c7b0 : decide (x22_2 < (l0.length : Int)) = false := decide_eq_false c7
               clear c7
               replace H := Option.bind_eq_some_iff.mp H
               obtain ⟨t114, A120, H⟩ := H
               replace H : (if t114 = t110 then (if x6_2 = t110 then (spec_doSum.l0 k2 l0 t110 l0 (l0.length : Int) (wrap64 (x15_1 + 1))) else (some (-1))) else (some (-1))) = some r := H
               have A12 := Aside0.mk A120
               clear A120
               by_cases c13 : t114 = t110
               · rw [if_pos c13] at H
                 have c13b0 : (t114 == t110) = true := beq_iff_eq.mpr c13
                 have c13b1 : (t114 != t110) = false := bne_eq_false_iff_eq.mpr c13
                 clear c13
                 by_cases c14 : x6_2 = t110
                 · rw [if_pos c14] at H
                   have c14b0 : (x6_2 == t110) = true := beq_iff_eq.mpr c14
                   have c14b1 : (x6_2 != t110) = false := bne_eq_false_iff_eq.mpr c14
                   clear c14
                   have H' := Aside0.mk H
                   clear H
                   go_wp2_with (first | ((with_reducible refine gate_callee (f := 92) rfl ?_); refine goesL_ (some 34) rfl rfl Try.func92 (by kernel_rfl) rfl #[.slice A111_0 (rd_L1 l0 x15_1).length c111_0] rfl (by (try simp only [List.map_toArray, List.map_cons, List.map_nil]); first | done | rfl | (simp only [List.length_drop, List.length_take]; rfl)) ?_; (with_reducible refine (spec_liSum.calls k2 _ _ (rd_L1 l0 x15_1) t114 _ ?side1 ?side2 A12.out).mono ?_); (case side1 => repeat (first | exact HR111_0.out | (with_reducible refine Kd.C_alloc ?_ _) | (with_reducible refine Kd.C_drewN ?_ _) | (with_reducible refine Kd.C_drew ?_))); (case side2 => exact HC111_0.out); rintro e w' ⟨rfl, ⟨nd, rfl⟩⟩; refine ⟨_, rfl, ?_⟩))
                   go_roundg k2
                   case measure => have := HK1.out; have := HK2.out; omega
                   case rel => exact ⟨(wrap64 (x15_1 + 1)), (by first | rfl | (simp; done) | (simp [*]; done)), H', ⟨by have := HK1.out; have := HK2.out; omega⟩, by repeat (first | exact Drawn0.refl _ | apply Drawn0.step)⟩
                 · rw [if_neg c14] at H
                   have c14b0 : (x6_2 == t110) = false := beq_eq_false_iff_ne.mpr c14
                   have c14b1 : (x6_2 != t110) = true := bne_iff_ne.mpr c14
                   obtain rfl := Option.some.inj H
                   go_wp2_with (first | ((with_reducible refine gate_callee (f := 92) rfl ?_); refine goesL_ (some 34) rfl rfl Try.func92 (by kernel_rfl) rfl #[.slice A111_0 (rd_L1 l0 x15_1).length c111_0] rfl (by (try simp only [List.map_toArray, List.map_cons, List.map_nil]); first | done | rfl | (simp only [List.length_drop, List.length_take]; rfl)) ?_; (with_reducible refine (spec_liSum.calls k2 _ _ (rd_L1 l0 x15_1) t114 _ ?side1 ?side2 A12.out).mono ?_); (case side1 => repeat (first | exact HR111_0.out | (with_reducible refine Kd.C_alloc ?_ _) | (with_reducible refine Kd.C_drewN ?_ _) | (with_reducible refine Kd.C_drew ?_))); (case side2 => exact HC111_0.out); rintro e w' ⟨rfl, ⟨nd, rfl⟩⟩; refine ⟨_, rfl, ?_⟩))
                   go_ret
                   exact ⟨by first | rfl | (simp; done) | (simp [*]; done), by repeat (first | exact Drawn0.refl _ | apply Drawn0.step)⟩
               · rw [if_neg c13] at H
                 have c13b0 : (t114 == t110) = false := beq_eq_false_iff_ne.mpr c13
                 have c13b1 : (t114 != t110) = true := bne_iff_ne.mpr c13
                 obtain rfl := Option.some.inj H
                 go_wp2_with (first | ((with_reducible refine gate_callee (f := 92) rfl ?_); refine goesL_ (some 34) rfl rfl Try.func92 (by kernel_rfl) rfl #[.slice A111_0 (rd_L1 l0 x15_1).length c111_0] rfl (by (try simp only [List.map_toArray, List.map_cons, List.map_nil]); first | done | rfl | (simp only [List.length_drop, List.length_take]; rfl)) ?_; (with_reducible refine (spec_liSum.calls k2 _ _ (rd_L1 l0 x15_1) t114 _ ?side1 ?side2 A12.out).mono ?_); (case side1 => repeat (first | exact HR111_0.out | (with_reducible refine Kd.C_alloc ?_ _) | (with_reducible refine Kd.C_drewN ?_ _) | (with_reducible refine Kd.C_drew ?_))); (case side2 => exact HC111_0.out); rintro e w' ⟨rfl, ⟨nd, rfl⟩⟩; refine ⟨_, rfl, ?_⟩))
                 go_ret
                 exact ⟨by first | rfl | (simp; done) | (simp [*]; done), by repeat (first | exact Drawn0.refl _ | apply Drawn0.step)⟩
         · rw [if_neg c6] at H
           exact absurd H (by simp)
       · rw [if_neg c5] at H
         exact absurd H (by simp)
     · rw [if_neg c4] at H
       have c4b0 : decide (x15_1 < (l0.length : Int)) = false := decide_eq_false c4
       clear c4
       obtain rfl := Option.some.inj H
       go_wp2
       go_ret
       exact ⟨by first | rfl | (simp; done) | (simp [*]; done), by repeat (first | exact Drawn0.refl _ | apply Drawn0.step)⟩
 · rw [if_neg c2] at H
   exact absurd H (by simp)

end Go.Proofs.Ytkhpojcplejdjaa.A
