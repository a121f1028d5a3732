/- What the law FnExactLowerCovers reaches, part 1: Lean functions with the same answers as the Go functions, the proofs that the Go code comes to these answers, and lemmas about them; no condition beyond those that each theorem names. -/
import Derived.Test.YtdkimdlbjeobiaaCFnExactLowerCoversw1
import Derived.Test.YtdkimdlbjeobiaaProg
import Derived.Below
import Derived.Deep.Draws
import Derived.Deep.AppendLies
import Derived.Maps.AppendAt
import Derived.OwnWalk
import Derived.Laws.BytesArg
import Derived.Laws.MakeOwn
import Derived.Laws.OwnMore
import Derived.Deep.OwnRows
import Derived.Tactics
import Derived.Lib.ConvBytes
import Derived.Laws.Slices
import Derived.WalkKit
import Derived.KernelRfl
import Derived.RowKit3
import Derived.Deep.LoopGhost
import Derived.Deep.QuietTactic
import Derived.BigQuiet
import Derived.WideLaws
import Derived.Deep.DeepCutAuto
import Derived.Deep.CutBlock
import Derived.Deep.RegionHeld3
import Derived.Laws.Rows
import Derived.Lib.AppendStr
import Derived.ArgAppend
import Derived.Laws.IdiomCopy
import Derived.OrdersHeld
import Derived.Laws.BitsLemmas
import Derived.RowKit
import Derived.Lib.SliceRun
import Derived.Shelf.SlSortCmp.NoneTotal
import Derived.Shelf.SlGeneric
import Derived.Ground.SlsfProg
import Derived.Lib.SlKept
import Derived.Shelf.SlicesE.DeleteFunc
import Derived.Shelf.SlLaysH
import Derived.Ground.SlgfProg
import Derived.Shelf.SlicesE.IndexFunc
-- made by a program of this repo (wip/pp.py) through the kit's printer
namespace Go.Proofs.Ytdkimdlbjeobiaa.A
open Go.RowKit Go.Proofs.YtdkimdlbjeobiaaW.PrintWords Go.Proofs.YtdkimdlbjeobiaaW.PrintLast Go.Proofs.YtdkimdlbjeobiaaW.PrintMore
attribute [local go_sem] max2_int min2_int max_two min_two max_three min_three max_four min_four
set_option linter.unusedVariables false
set_option linter.unusedSimpArgs false



def errW : Option Int → Value
 | none => .nilIface
 | some c => .iface 0 (.int .i64 c)
theorem errW_none : errW none = .nilIface := rfl
theorem errW_some (c : Int) : errW (some c) = .iface 0 (.int .i64 c) := rfl

theorem info3 : (Try.prog.info? 3).map (fun i => (i.zero, i.size, i.bytes)) = some (some (.int .i64 0), 1, 8) := by kernel_rfl
theorem info22 : (Try.prog.info? 22).map (fun i => (i.zero, i.size, i.bytes)) = some (some (.slice none 0 0), 1, 24) := by kernel_rfl
def rd_L1 (xs : List (List Int)) (i : Int) : (List Int) := xs.getD i.toNat ([] : List Int)
theorem at_L1 {w : World} {A : Option Addr} {n : Nat} {xs : List (List Int)} (h : Kd.C (Kd.slice 3 (Kd.int .i64)) w A n xs) (i : Int) (h0 : 0 ≤ i) (h1 : i < n) : ∃ ad A0 c0, A = some ad ∧ w.cell? (ad.add i.toNat) = some (.slice A0 (rd_L1 xs i).length c0) ∧ (rd_L1 xs i).length ≤ c0 ∧ (Kd.int .i64).C w A0 (rd_L1 xs i).length (rd_L1 xs i) := by
 obtain ⟨ad, c, e, _, hK, hc0⟩ := Kd.C_get h ([] : List Int) i h0 h1
 have hc : ∀ j u, c[j]? = some u → w.cell? (ad.add (i.toNat * 1 + j)) = some u := hc0
 obtain ⟨A0, c0, rfl, l0, g0⟩ := hK
 exact ⟨ad, A0, c0, e, by have hq := hc 0 _ rfl; rwa [Nat.mul_one, Nat.add_zero] at hq, l0, g0⟩

end Go.Proofs.Ytdkimdlbjeobiaa.A

-- made by a program of this repo (wip/pp.py) through the kit's printer
namespace Go.Proofs.Ytdkimdlbjeobiaa.A
open Go.RowKit Go.Proofs.YtdkimdlbjeobiaaW.PrintWords Go.Proofs.YtdkimdlbjeobiaaW.PrintLast Go.Proofs.YtdkimdlbjeobiaaW.PrintMore
attribute [local go_sem] max2_int min2_int max_two min_two max_three min_three max_four min_four
set_option linter.unusedVariables false
set_option linter.unusedSimpArgs false

/-! ### laws_eqIntS: function 10 -/
def laws_eqIntS.l0 : Nat → List Int → List Int → Int → Option (Bool)
 | 0, _, _, _ => none
 | k + 1, x0, x1, x5 => if x5 < (x0.length : Int) then (if 0 ≤ x5 then (if x5 < (x1.length : Int) then (if (rd x0 x5) = (rd x1 x5) then (laws_eqIntS.l0 k x0 x1 (wrap64 (x5 + 1))) else (some false)) else (none)) else (none)) else (some true)
def laws_eqIntS.f (k : Nat) (l0 : List Int) (l1 : List Int) : Option (Bool) := if (l0.length : Int) = (l1.length : Int) then (laws_eqIntS.l0 k l0 l1 0) else (some false)
set_option maxHeartbeats 8000000 in
set_option maxRecDepth 100000 in
theorem laws_eqIntS.calls (k : Nat) (A0 : Option Addr) (c0 : Nat) (l0 : List Int) (A1 : Option Addr) (c1 : Nat) (l1 : List Int) (r : Bool) (w : World) (hr0 : Kd.C (Kd.int .i64) w A0 l0.length l0) (hc0 : l0.length ≤ c0) (hr1 : Kd.C (Kd.int .i64) w A1 l1.length l1) (hc1 : l1.length ≤ c1) (h : laws_eqIntS.f k l0 l1 = some r) :
 Calls Try.prog 10 #[.slice A0 l0.length c0, .slice A1 l1.length c1] w fun e w' => e = .returned (.bool r) ∧ Drawn0 w w' := by
 have HR0 := Aside0.mk hr0
 have HC0 := Aside0.mk hc0
 clear hr0 hc0
 have HR1 := Aside0.mk hr1
 have HC1 := Aside0.mk hc1
 clear hr1 hc1
 have H : (if (l0.length : Int) = (l1.length : Int) then (laws_eqIntS.l0 k l0 l1 0) else (some false)) = some r := h
 clear h
 by_cases c3 : (l0.length : Int) = (l1.length : Int)
 · rw [if_pos c3] at H
   have c3b0 : ((l0.length : Int) == (l1.length : Int)) = true := beq_iff_eq.mpr c3
   have c3b1 : ((l0.length : Int) != (l1.length : Int)) = false := bne_eq_false_iff_eq.mpr c3
   have c3b2 : (l0.length == l1.length) = true := by first | simpa using c3 | (simp at c3 ⊢; omega)
   clear c3
   have H' := Aside0.mk H
   clear H
   go_enter Try.func10, Try.ntmps10
   go_wp2
   repeat (go_quiet (fail); try go_wp2)
   go_loopg [5] k (fun kq v5 w' => ∃ (x5_1 : Int), v5 = .int .i64 x5_1 ∧ Aside0 (laws_eqIntS.l0 kq l0 l1 x5_1 = some r) ∧ Aside0 (kq ≤ k) ∧ Drawn0 w w')
   case atStart => exact ⟨(0), (by first | rfl | (simp; done) | (simp [*]; done)), H', ⟨Nat.le_refl _⟩, by repeat (first | exact Drawn0.refl _ | apply Drawn0.step)⟩
   case round =>
    clear H'
    try clear c1
    try clear p2
    try clear c3
    try clear c3b0
    try clear c3b1
    try clear c3b2
    obtain ⟨x5_1, rfl, HA, HK1, ⟨m1, rfl⟩⟩ := hrel
    cases gk with
    | zero => exact absurd HA.out (by simp [laws_eqIntS.l0])
    | succ k1 =>
     have H := HA.out
     clear HA
     simp only [laws_eqIntS.l0] at H
     by_cases c4 : x5_1 < (l0.length : Int)
     · rw [if_pos c4] at H
       have c4b0 : decide (x5_1 < (l0.length : Int)) = true := decide_eq_true c4
       clear c4
       by_cases c5 : 0 ≤ x5_1
       · rw [if_pos c5] at H
         have c5b0 : decide (0 ≤ x5_1) = true := decide_eq_true c5
         clear c5
         by_cases c6 : x5_1 < (l1.length : Int)
         · rw [if_pos c6] at H
           have c6b0 : decide (x5_1 < (l1.length : Int)) = true := decide_eq_true c6
           clear c6
           by_cases c7 : (rd l0 x5_1) = (rd l1 x5_1)
           · rw [if_pos c7] at H
             have c7b0 : ((rd l0 x5_1) == (rd l1 x5_1)) = true := beq_iff_eq.mpr c7
             have c7b1 : ((rd l0 x5_1) != (rd l1 x5_1)) = false := bne_eq_false_iff_eq.mpr c7
             clear c7
             have H' := Aside0.mk H
             clear H
             have p277 : 0 ≤ (x5_1 : Int) := of_decide_eq_true (by first | (with_reducible assumption) | assumption)
             have q277 : x5_1 < (l0.length : Int) := of_decide_eq_true (by first | (with_reducible assumption) | assumption)
             obtain ⟨ad277, e277, hx277_0⟩ := Kd.at_int HR0.out x5_1 p277 q277
             cases e277
             replace p277 := eq_true p277
             replace q277 := eq_true q277
             have p278 : 0 ≤ (x5_1 : Int) := of_decide_eq_true (by first | (with_reducible assumption) | assumption)
             have q278 : x5_1 < (l1.length : Int) := of_decide_eq_true (by first | (with_reducible assumption) | assumption)
             obtain ⟨ad278, e278, hx278_0⟩ := Kd.at_int HR1.out x5_1 p278 q278
             cases e278
             replace p278 := eq_true p278
             replace q278 := eq_true q278
             go_wp2
             repeat (go_quiet (fail); try go_wp2)
             go_roundg k1
             case measure => have := HK1.out; omega
             case rel => exact ⟨(wrap64 (x5_1 + 1)), (by first | rfl | (simp; done) | (simp [*]; done)), H', ⟨by have := HK1.out; omega⟩, by repeat (first | exact Drawn0.refl _ | apply Drawn0.step)⟩
           · rw [if_neg c7] at H
             have c7b0 : ((rd l0 x5_1) == (rd l1 x5_1)) = false := beq_eq_false_iff_ne.mpr c7
             have c7b1 : ((rd l0 x5_1) != (rd l1 x5_1)) = true := bne_iff_ne.mpr c7
             obtain rfl := Option.some.inj H
             have p277 : 0 ≤ (x5_1 : Int) := of_decide_eq_true (by first | (with_reducible assumption) | assumption)
             have q277 : x5_1 < (l0.length : Int) := of_decide_eq_true (by first | (with_reducible assumption) | assumption)
             obtain ⟨ad277, e277, hx277_0⟩ := Kd.at_int HR0.out x5_1 p277 q277
             cases e277
             replace p277 := eq_true p277
             replace q277 := eq_true q277
             have p278 : 0 ≤ (x5_1 : Int) := of_decide_eq_true (by first | (with_reducible assumption) | assumption)
             have q278 : x5_1 < (l1.length : Int) := of_decide_eq_true (by first | (with_reducible assumption) | assumption)
             obtain ⟨ad278, e278, hx278_0⟩ := Kd.at_int HR1.out x5_1 p278 q278
             cases e278
             replace p278 := eq_true p278
             replace q278 := eq_true q278
             go_wp2
             repeat (go_quiet (fail); try go_wp2)
             go_ret
             exact ⟨by first | rfl | (simp; done) | (simp [*]; done), by repeat (first | exact Drawn0.refl _ | apply Drawn0.step)⟩
         · rw [if_neg c6] at H
           exact absurd H (by simp)
       · rw [if_neg c5] at H
         exact absurd H (by simp)
     · rw [if_neg c4] at H
       have c4b0 : decide (x5_1 < (l0.length : Int)) = false := decide_eq_false c4
       clear c4
       obtain rfl := Option.some.inj H
       go_wp2
       repeat (go_quiet (fail); try go_wp2)
       go_ret
       exact ⟨by first | rfl | (simp; done) | (simp [*]; done), by repeat (first | exact Drawn0.refl _ | apply Drawn0.step)⟩
 · rw [if_neg c3] at H
   have c3b0 : ((l0.length : Int) == (l1.length : Int)) = false := beq_eq_false_iff_ne.mpr c3
   have c3b1 : ((l0.length : Int) != (l1.length : Int)) = true := bne_iff_ne.mpr c3
   have c3b2 : (l0.length == l1.length) = false := by first | simpa using c3 | (simp at c3 ⊢; omega)
   obtain rfl := Option.some.inj H
   go_enter Try.func10, Try.ntmps10
   go_wp2
   repeat (go_quiet (fail); try go_wp2)
   go_ret
   exact ⟨by first | rfl | (simp; done) | (simp [*]; done), by repeat (first | exact Drawn0.refl _ | apply Drawn0.step)⟩

end Go.Proofs.Ytdkimdlbjeobiaa.A

-- made by a program of this repo (wip/pp.py) through the kit's printer
namespace Go.Proofs.Ytdkimdlbjeobiaa.A
open Go.RowKit Go.Proofs.YtdkimdlbjeobiaaW.PrintWords Go.Proofs.YtdkimdlbjeobiaaW.PrintLast Go.Proofs.YtdkimdlbjeobiaaW.PrintMore
attribute [local go_sem] max2_int min2_int max_two min_two max_three min_three max_four min_four
set_option linter.unusedVariables false
set_option linter.unusedSimpArgs false

/-! ### laws_markIntS: function 11 -/
def laws_markIntS.l0 : Nat → List Int → Int → Int → Option (Int × List Int)
 | 0, _, _, _ => none
 | k + 1, x0, x1, x5 => if x5 < (x0.length : Int) then (if 0 ≤ x5 then (laws_markIntS.l0 k (x0.set (x5 : Int).toNat x1) (wrap64 (x1 + 1)) (wrap64 (x5 + 1))) else (none)) else (some (x1, x0))
def laws_markIntS.f (k : Nat) (l0 : List Int) (a1 : Int) : Option (Int × List Int) := laws_markIntS.l0 k l0 a1 0
set_option maxHeartbeats 8000000 in
set_option maxRecDepth 100000 in
theorem laws_markIntS.calls (k : Nat) (P0_ : Nat → Prop) (u9000_ : Value) (l0 : List Int) (a1 : Int) (r1 : Int) (r2 : List Int) (w0 w : World) (hB : Below w0.heap.size w0 w) (ho0 : Kd.R (Kd.int .i64) 3 w w0.heap.size P0_ u9000_ l0) (h : laws_markIntS.f k l0 a1 = some (r1, r2)) :
 Calls Try.prog 11 #[u9000_, .int .i64 a1] w fun e w' => e = .returned (.int .i64 r1) ∧ Kd.R (Kd.int .i64) 3 w' w0.heap.size (fun k_ => (P0_ k_ ∨ w.heap.size ≤ k_)) u9000_ r2 ∧ Below w0.heap.size w0 w' ∧ Kept w w' (fun k_ => P0_ k_) := by
 have HO0 := Aside0.mk (show Kd.R (Kd.int .i64) 3 w w0.heap.size (fun k_ => (P0_ k_ ∨ w.heap.size ≤ k_)) u9000_ l0 from Kd.R_mono ho0 (fun k_ hk => (.inl hk)))
 have HK := Aside0.mk (Kept.refl w (fun k_ => P0_ k_))
 have HW0 := Aside0.mk hB.size
 have HB := Aside0.mk hB
 clear hB
 have H : (laws_markIntS.l0 k l0 a1 0) = some (r1, r2) := h
 clear h
 have H' := Aside0.mk H
 clear H
 go_enter Try.func11, Try.ntmps11
 go_wp2
 go_loopg [1, 5] k (fun kq v1 v5 w' => ∃ (x0_1 : List Int) (x1_1 : Int) (x5_1 : Int), v1 = .int .i64 x1_1 ∧ v5 = .int .i64 x5_1 ∧ Aside0 (laws_markIntS.l0 kq x0_1 x1_1 x5_1 = some (r1, r2)) ∧ Aside0 (kq ≤ k) ∧ Aside0 (Kd.R (Kd.int .i64) 3 w' w0.heap.size (fun k_ => (P0_ k_ ∨ w.heap.size ≤ k_)) u9000_ x0_1) ∧ Aside0 (Kept w w' (fun k_ => P0_ k_)) ∧ Aside0 (Below w0.heap.size w0 w'))
 case atStart => exact ⟨(l0), (a1), (0), (by first | rfl | (simp; done) | (simp [*]; done)), (by first | rfl | (simp; done) | (simp [*]; done)), H', ⟨Nat.le_refl _⟩, ⟨by (with_reducible repeat (first | apply Kd.R_alloc | apply Kd.R_drewN | apply Kd.R_drew)); exact HO0.out⟩, ⟨by repeat (first | (with_reducible first | exact HK.out | apply Kept.alloc | apply Kept.drewN | apply Kept.drew) | exact HK.out)⟩, ⟨by repeat (first | (with_reducible first | exact HB.out | apply below_alloc | apply pw_below_drewN | apply below_drew1) | exact HB.out)⟩⟩
 case round =>
  clear H'
  try clear c1
  try clear p2
  obtain ⟨x0_1, x1_1, x5_1, rfl, rfl, HA, HK1, HO_0, HK, HB⟩ := hrel
  cases gk with
  | zero => exact absurd HA.out (by simp [laws_markIntS.l0])
  | succ k1 =>
   have H := HA.out
   clear HA
   simp only [laws_markIntS.l0] at H
   by_cases c3 : x5_1 < (x0_1.length : Int)
   · rw [if_pos c3] at H
     have c3b0 : decide (x5_1 < (x0_1.length : Int)) = true := decide_eq_true c3
     clear c3
     by_cases c4 : 0 ≤ x5_1
     · rw [if_pos c4] at H
       have c4b0 : decide (0 ≤ x5_1) = true := decide_eq_true c4
       clear c4
       obtain ⟨y282, hy282⟩ : ∃ y_ : List Int, y_ = (x0_1.set (x5_1 : Int).toNat x1_1) := ⟨_, rfl⟩
       replace H : (laws_markIntS.l0 k1 y282 (wrap64 (x1_1 + 1)) (wrap64 (x5_1 + 1))) = some (r1, r2) := by first | (rw [hy282]; with_reducible exact H) | (have H2_ := (Option.bind_some _ _).symm.trans H; rw [hy282]; with_reducible exact H2_) | (have H2_ := (Option.bind_some _ _).symm.trans H; with_reducible exact H2_) | with_reducible exact H | (rw [hy282]; exact H) | exact H
       have Ny282 := Aside0.mk hy282
       clear hy282
       have H' := Aside0.mk H
       clear H
       obtain ⟨Ao6, co6, eo6⟩ := Kd.R_slice HO_0.out
       subst eo6
       have p5 : 0 ≤ (x5_1 : Int) := of_decide_eq_true (by first | (with_reducible assumption) | assumption)
       have q5 : (x5_1 : Int) < ((x0_1.length : Int) : Int) := of_decide_eq_true (by first | (with_reducible assumption) | assumption)
       obtain ⟨go5, co5, eo5, gb5, gl5, cl5, HG5⟩ := Kd.R_form HO_0.out (by omega)
       (first | cases eo5 | (injection eo5 with ea_ en_ ec_; (first | subst ea_ | (injection ea_ with ea_; subst ea_)); subst ec_; clear en_))
       have GB5 := Aside0.mk gb5
       have GG5 := Aside0.mk HG5
       clear gb5 gl5 HG5
       have HMgo5 := Aside0.mk (show (P0_ go5 ∨ w.heap.size ≤ go5) from (HO_0.out.1 _ rfl))
       obtain ⟨hx5_0, hf5_0⟩ := Kd.R_celln 0 HO_0.out (x5_1 : Int) p5 q5
       replace p5 := eq_true p5
       replace q5 := eq_true q5
       have HP7 := Kd.R_putg HO_0.out (x5_1 : Int) x1_1
       go_wp2_with (first | ((with_reducible refine gate_store (t := 3) (p := 15) rfl ?_); refine store_event (t := 3) (p := 15) (v := ?vo_w8) (w1 := (wr.setCell ⟨go5, (x5_1 : Int).toNat, none⟩ (.int .i64 x1_1))) ?hg ?ho ?hn ?hr ?_; (case ho => rfl); (case hg => rfl); (case hn => rfl); (case hr => first | (go_simp; done) | (go_simp; rfl)); intro w8 hw; have hg : wr.grownBy w8 (some go5) := (by rw [hw]; exact HP7.2); have hp_ : Kd.R (Kd.int .i64) 3 w8 w0.heap.size (fun k_ => (P0_ k_ ∨ w.heap.size ≤ k_)) (.slice (some ⟨go5, 0, none⟩) x0_1.length co6) y282 := (by rw [hw, Ny282.out]; exact HP7.1); clear HP7; have n0_ := Aside0.mk (hp_); have n1_ := Aside0.mk ((by rw [hw]; exact below_set (HB.out) GB5.out : Below w0.heap.size w0 w8)); have n2_ := Aside0.mk (Kept.of_grown (S := (fun k_ => P0_ k_)) hg (by repeat (first | (with_reducible first | exact HK.out | apply Kept.alloc | apply Kept.drewN | apply Kept.drew) | exact HK.out)) (fun k_ e_ => (HO_0.out.1 k_ e_))); clear HO_0; clear HB; clear HK; have HO_0 := n0_; have HB := n1_; have HK := n2_; clear n0_ n1_ n2_; clear hg hw hp_))
       go_roundg k1
       case measure => have := HK1.out; omega
       case rel => exact ⟨(y282), (wrap64 (x1_1 + 1)), (wrap64 (x5_1 + 1)), (by first | rfl | (simp; done) | (simp [*]; done)), (by first | rfl | (simp; done) | (simp [*]; done)), H', ⟨by have := HK1.out; omega⟩, ⟨by (with_reducible repeat (first | apply Kd.R_alloc | apply Kd.R_drewN | apply Kd.R_drew)); exact HO_0.out⟩, ⟨by repeat (first | (with_reducible first | exact HK.out | apply Kept.alloc | apply Kept.drewN | apply Kept.drew) | exact HK.out)⟩, ⟨by repeat (first | (with_reducible first | exact HB.out | apply below_alloc | apply pw_below_drewN | apply below_drew1) | exact HB.out)⟩⟩
     · rw [if_neg c4] at H
       exact absurd H (by simp)
   · rw [if_neg c3] at H
     have c3b0 : decide (x5_1 < (x0_1.length : Int)) = false := decide_eq_false c3
     clear c3
     simp only [Option.some.injEq, Prod.mk.injEq] at H
     obtain ⟨rfl, rfl⟩ := H
     obtain ⟨Ao9, co9, eo9⟩ := Kd.R_slice HO_0.out
     subst eo9
     go_wp2
     go_ret
     exact ⟨by first | rfl | (simp [errW_none, errW_some] <;> rfl) | (simp [*, errW_none, errW_some] <;> rfl), by (with_reducible repeat (first | apply Kd.R_alloc | apply Kd.R_drewN | apply Kd.R_drew)); exact HO_0.out, by repeat (first | (with_reducible first | exact HB.out | apply below_alloc | apply pw_below_drewN | apply below_drew1) | exact HB.out), by repeat (first | (with_reducible first | exact HK.out | apply Kept.alloc | apply Kept.drewN | apply Kept.drew) | exact HK.out)⟩

end Go.Proofs.Ytdkimdlbjeobiaa.A

-- made by a program of this repo (wip/pp.py) through the kit's printer
namespace Go.Proofs.Ytdkimdlbjeobiaa.A
open Go.RowKit Go.Proofs.YtdkimdlbjeobiaaW.PrintWords Go.Proofs.YtdkimdlbjeobiaaW.PrintLast Go.Proofs.YtdkimdlbjeobiaaW.PrintMore
attribute [local go_sem] max2_int min2_int max_two min_two max_three min_three max_four min_four
set_option linter.unusedVariables false
set_option linter.unusedSimpArgs false

/-! ### laws_heldIntS: function 44 -/
def laws_heldIntS.l0 : Nat → List Int → Int → Int → Option (Int)
 | 0, _, _, _ => none
 | k + 1, x0, x1, x5 => if x5 < (x0.length : Int) then (if 0 ≤ x5 then (if (rd x0 x5) = x1 then (laws_heldIntS.l0 k x0 (wrap64 (x1 + 1)) (wrap64 (x5 + 1))) else (some (-1))) else (none)) else (some x1)
def laws_heldIntS.f (k : Nat) (l0 : List Int) (a1 : Int) : Option (Int) := laws_heldIntS.l0 k l0 a1 0
set_option maxHeartbeats 8000000 in
set_option maxRecDepth 100000 in
theorem laws_heldIntS.calls (k : Nat) (A0 : Option Addr) (c0 : Nat) (l0 : List Int) (a1 : Int) (r : Int) (w : World) (hr0 : Kd.C (Kd.int .i64) w A0 l0.length l0) (hc0 : l0.length ≤ c0) (h : laws_heldIntS.f k l0 a1 = some r) :
 Calls Try.prog 44 #[.slice A0 l0.length c0, .int .i64 a1] w fun e w' => e = .returned (.int .i64 r) ∧ Drawn0 w w' := by
 have HR0 := Aside0.mk hr0
 have HC0 := Aside0.mk hc0
 clear hr0 hc0
 have H : (laws_heldIntS.l0 k l0 a1 0) = some r := h
 clear h
 have H' := Aside0.mk H
 clear H
 go_enter Try.func44, Try.ntmps44
 go_wp2
 go_loopg [1, 5] k (fun kq v1 v5 w' => ∃ (x1_1 : Int) (x5_1 : Int), v1 = .int .i64 x1_1 ∧ v5 = .int .i64 x5_1 ∧ Aside0 (laws_heldIntS.l0 kq l0 x1_1 x5_1 = some r) ∧ Aside0 (kq ≤ k) ∧ Drawn0 w w')
 case atStart => exact ⟨(a1), (0), (by first | rfl | (simp; done) | (simp [*]; done)), (by first | rfl | (simp; done) | (simp [*]; done)), H', ⟨Nat.le_refl _⟩, by repeat (first | exact Drawn0.refl _ | apply Drawn0.step)⟩
 case round =>
  clear H'
  try clear p2
  obtain ⟨x1_1, x5_1, rfl, rfl, HA, HK1, ⟨m1, rfl⟩⟩ := hrel
  cases gk with
  | zero => exact absurd HA.out (by simp [laws_heldIntS.l0])
  | succ k1 =>
   have H := HA.out
   clear HA
   simp only [laws_heldIntS.l0] at H
   by_cases c3 : x5_1 < (l0.length : Int)
   · rw [if_pos c3] at H
     have c3b0 : decide (x5_1 < (l0.length : Int)) = true := decide_eq_true c3
     clear c3
     by_cases c4 : 0 ≤ x5_1
     · rw [if_pos c4] at H
       have c4b0 : decide (0 ≤ x5_1) = true := decide_eq_true c4
       clear c4
       by_cases c5 : (rd l0 x5_1) = x1_1
       · rw [if_pos c5] at H
         have c5b0 : ((rd l0 x5_1) == x1_1) = true := beq_iff_eq.mpr c5
         have c5b1 : ((rd l0 x5_1) != x1_1) = false := bne_eq_false_iff_eq.mpr c5
         clear c5
         have H' := Aside0.mk H
         clear H
         have p284 : 0 ≤ (x5_1 : Int) := of_decide_eq_true (by first | (with_reducible assumption) | assumption)
         have q284 : x5_1 < (l0.length : Int) := of_decide_eq_true (by first | (with_reducible assumption) | assumption)
         obtain ⟨ad284, e284, hx284_0⟩ := Kd.at_int HR0.out x5_1 p284 q284
         cases e284
         replace p284 := eq_true p284
         replace q284 := eq_true q284
         go_wp2
         go_roundg k1
         case measure => have := HK1.out; omega
         case rel => exact ⟨(wrap64 (x1_1 + 1)), (wrap64 (x5_1 + 1)), (by first | rfl | (simp; done) | (simp [*]; done)), (by first | rfl | (simp; done) | (simp [*]; done)), H', ⟨by have := HK1.out; omega⟩, by repeat (first | exact Drawn0.refl _ | apply Drawn0.step)⟩
       · rw [if_neg c5] at H
         have c5b0 : ((rd l0 x5_1) == x1_1) = false := beq_eq_false_iff_ne.mpr c5
         have c5b1 : ((rd l0 x5_1) != x1_1) = true := bne_iff_ne.mpr c5
         obtain rfl := Option.some.inj H
         have p284 : 0 ≤ (x5_1 : Int) := of_decide_eq_true (by first | (with_reducible assumption) | assumption)
         have q284 : x5_1 < (l0.length : Int) := of_decide_eq_true (by first | (with_reducible assumption) | assumption)
         obtain ⟨ad284, e284, hx284_0⟩ := Kd.at_int HR0.out x5_1 p284 q284
         cases e284
         replace p284 := eq_true p284
         replace q284 := eq_true q284
         go_wp2
         go_ret
         exact ⟨by first | rfl | (simp; done) | (simp [*]; done), by repeat (first | exact Drawn0.refl _ | apply Drawn0.step)⟩
     · rw [if_neg c4] at H
       exact absurd H (by simp)
   · rw [if_neg c3] at H
     have c3b0 : decide (x5_1 < (l0.length : Int)) = false := decide_eq_false c3
     clear c3
     obtain rfl := Option.some.inj H
     go_wp2
     go_ret
     exact ⟨by first | rfl | (simp; done) | (simp [*]; done), by repeat (first | exact Drawn0.refl _ | apply Drawn0.step)⟩

end Go.Proofs.Ytdkimdlbjeobiaa.A

-- made by a program of this repo (wip/pp.py) through the kit's printer
namespace Go.Proofs.Ytdkimdlbjeobiaa.A
open Go.RowKit Go.Proofs.YtdkimdlbjeobiaaW.PrintWords Go.Proofs.YtdkimdlbjeobiaaW.PrintLast Go.Proofs.YtdkimdlbjeobiaaW.PrintMore
attribute [local go_sem] max2_int min2_int max_two min_two max_three min_three max_four min_four
set_option linter.unusedVariables false
set_option linter.unusedSimpArgs false

/-! ### laws_heldIntSS: function 13 -/
def laws_heldIntSS.l0 : Nat → List (List Int) → Int → Int → Option (Int)
 | 0, _, _, _ => none
 | k + 1, x0, x1, x5 => if x5 < (x0.length : Int) then (if 0 ≤ x5 then ((laws_heldIntS.f k (rd_L1 x0 x5) x1).bind fun t286 => (if t286 < 0 then (some (-1)) else (laws_heldIntSS.l0 k x0 t286 (wrap64 (x5 + 1))))) else (none)) else (some x1)
def laws_heldIntSS.f (k : Nat) (l0 : List (List Int)) (a1 : Int) : Option (Int) := laws_heldIntSS.l0 k l0 a1 0
set_option maxHeartbeats 8000000 in
set_option maxRecDepth 100000 in
theorem laws_heldIntSS.calls (k : Nat) (A0 : Option Addr) (c0 : Nat) (l0 : List (List Int)) (a1 : Int) (r : Int) (w : World) (hr0 : Kd.C (Kd.slice 3 (Kd.int .i64)) w A0 l0.length l0) (hc0 : l0.length ≤ c0) (h : laws_heldIntSS.f k l0 a1 = some r) :
 Calls Try.prog 13 #[.slice A0 l0.length c0, .int .i64 a1] w fun e w' => e = .returned (.int .i64 r) ∧ Drawn0 w w' := by
 have HR0 := Aside0.mk hr0
 have HC0 := Aside0.mk hc0
 clear hr0 hc0
 have H : (laws_heldIntSS.l0 k l0 a1 0) = some r := h
 clear h
 have H' := Aside0.mk H
 clear H
 go_enter Try.func13, Try.ntmps13
 go_wp2
 go_loopg [1, 5] k (fun kq v1 v5 w' => ∃ (x1_1 : Int) (x5_1 : Int), v1 = .int .i64 x1_1 ∧ v5 = .int .i64 x5_1 ∧ Aside0 (laws_heldIntSS.l0 kq l0 x1_1 x5_1 = some r) ∧ Aside0 (kq ≤ k) ∧ Drawn0 w w')
 case atStart => exact ⟨(a1), (0), (by first | rfl | (simp; done) | (simp [*]; done)), (by first | rfl | (simp; done) | (simp [*]; done)), H', ⟨Nat.le_refl _⟩, by repeat (first | exact Drawn0.refl _ | apply Drawn0.step)⟩
 case round =>
  clear H'
  try clear c1
  try clear p2
  obtain ⟨x1_1, x5_1, rfl, rfl, HA, HK1, ⟨m1, rfl⟩⟩ := hrel
  cases gk with
  | zero => exact absurd HA.out (by simp [laws_heldIntSS.l0])
  | succ k1 =>
   have H := HA.out
   clear HA
   simp only [laws_heldIntSS.l0] at H
   by_cases c3 : x5_1 < (l0.length : Int)
   · rw [if_pos c3] at H
     have c3b0 : decide (x5_1 < (l0.length : Int)) = true := decide_eq_true c3
     clear c3
     by_cases c4 : 0 ≤ x5_1
     · rw [if_pos c4] at H
       have c4b0 : decide (0 ≤ x5_1) = true := decide_eq_true c4
       clear c4
       replace H := Option.bind_eq_some_iff.mp H
       obtain ⟨t286, A50, H⟩ := H
       replace H : (if t286 < 0 then (some (-1)) else (laws_heldIntSS.l0 k1 l0 t286 (wrap64 (x5_1 + 1)))) = some r := H
       have A5 := Aside0.mk A50
       clear A50
       by_cases c6 : t286 < 0
       · rw [if_pos c6] at H
         have c6b0 : decide (t286 < 0) = true := decide_eq_true c6
         clear c6
         obtain rfl := Option.some.inj H
         have p285 : 0 ≤ (x5_1 : Int) := of_decide_eq_true (by first | (with_reducible assumption) | assumption)
         have q285 : x5_1 < (l0.length : Int) := of_decide_eq_true (by first | (with_reducible assumption) | assumption)
         obtain ⟨ad285, A285_0, c285_0, e285, hx285_0, hl285_0, hi285_0⟩ := at_L1 HR0.out x5_1 p285 q285
         cases e285
         have HR285_0 := Aside0.mk hi285_0
         have HC285_0 := Aside0.mk hl285_0
         clear hi285_0 hl285_0
         replace p285 := eq_true p285
         replace q285 := eq_true q285
         go_wp2_with (first | ((with_reducible refine gate_callee (f := 44) rfl ?_); refine goesL_ (some 17) rfl rfl Try.func44 (by kernel_rfl) rfl #[.slice A285_0 (rd_L1 l0 x5_1).length c285_0, .int .i64 x1_1] rfl (by (try simp only [List.map_toArray, List.map_cons, List.map_nil]); first | done | rfl | (simp only [List.length_drop, List.length_take]; rfl)) ?_; (with_reducible refine (laws_heldIntS.calls k1 _ _ (rd_L1 l0 x5_1) x1_1 t286 _ ?side1 ?side2 A5.out).mono ?_); (case side1 => repeat (first | exact HR285_0.out | (with_reducible refine Kd.C_alloc ?_ _) | (with_reducible refine Kd.C_drewN ?_ _) | (with_reducible refine Kd.C_drew ?_))); (case side2 => exact HC285_0.out); rintro e w' ⟨rfl, ⟨nd, rfl⟩⟩; refine ⟨_, rfl, ?_⟩))
         go_ret
         exact ⟨by first | rfl | (simp; done) | (simp [*]; done), by repeat (first | exact Drawn0.refl _ | apply Drawn0.step)⟩
       · rw [if_neg c6] at H
         have c6b0 : decide (t286 < 0) = false := decide_eq_false c6
         clear c6
         have H' := Aside0.mk H
         clear H
         have p285 : 0 ≤ (x5_1 : Int) := of_decide_eq_true (by first | (with_reducible assumption) | assumption)
         have q285 : x5_1 < (l0.length : Int) := of_decide_eq_true (by first | (with_reducible assumption) | assumption)
         obtain ⟨ad285, A285_0, c285_0, e285, hx285_0, hl285_0, hi285_0⟩ := at_L1 HR0.out x5_1 p285 q285
         cases e285
         have HR285_0 := Aside0.mk hi285_0
         have HC285_0 := Aside0.mk hl285_0
         clear hi285_0 hl285_0
         replace p285 := eq_true p285
         replace q285 := eq_true q285
         go_wp2_with (first | ((with_reducible refine gate_callee (f := 44) rfl ?_); refine goesL_ (some 17) rfl rfl Try.func44 (by kernel_rfl) rfl #[.slice A285_0 (rd_L1 l0 x5_1).length c285_0, .int .i64 x1_1] rfl (by (try simp only [List.map_toArray, List.map_cons, List.map_nil]); first | done | rfl | (simp only [List.length_drop, List.length_take]; rfl)) ?_; (with_reducible refine (laws_heldIntS.calls k1 _ _ (rd_L1 l0 x5_1) x1_1 t286 _ ?side1 ?side2 A5.out).mono ?_); (case side1 => repeat (first | exact HR285_0.out | (with_reducible refine Kd.C_alloc ?_ _) | (with_reducible refine Kd.C_drewN ?_ _) | (with_reducible refine Kd.C_drew ?_))); (case side2 => exact HC285_0.out); rintro e w' ⟨rfl, ⟨nd, rfl⟩⟩; refine ⟨_, rfl, ?_⟩))
         go_roundg k1
         case measure => have := HK1.out; omega
         case rel => exact ⟨(t286), (wrap64 (x5_1 + 1)), (by first | rfl | (simp; done) | (simp [*]; done)), (by first | rfl | (simp; done) | (simp [*]; done)), H', ⟨by have := HK1.out; omega⟩, by repeat (first | exact Drawn0.refl _ | apply Drawn0.step)⟩
     · rw [if_neg c4] at H
       exact absurd H (by simp)
   · rw [if_neg c3] at H
     have c3b0 : decide (x5_1 < (l0.length : Int)) = false := decide_eq_false c3
     clear c3
     obtain rfl := Option.some.inj H
     go_wp2
     go_ret
     exact ⟨by first | rfl | (simp; done) | (simp [*]; done), by repeat (first | exact Drawn0.refl _ | apply Drawn0.step)⟩

end Go.Proofs.Ytdkimdlbjeobiaa.A

-- made by a program of this repo (wip/pp.py) through the kit's printer
namespace Go.Proofs.Ytdkimdlbjeobiaa.A
open Go.RowKit Go.Proofs.YtdkimdlbjeobiaaW.PrintWords Go.Proofs.YtdkimdlbjeobiaaW.PrintLast Go.Proofs.YtdkimdlbjeobiaaW.PrintMore
attribute [local go_sem] max2_int min2_int max_two min_two max_three min_three max_four min_four
set_option linter.unusedVariables false
set_option linter.unusedSimpArgs false

/-! ### laws_toIntS: function 7 -/
def laws_toIntS.l0 : Nat → List Int → List Int → Int → Option (List Int)
 | 0, _, _, _ => none
 | k + 1, x0, x3, x4 => if x4 < (x0.length : Int) then (if 0 ≤ x4 then (if x4 < (x3.length : Int) then (laws_toIntS.l0 k x0 (x3.set (x4 : Int).toNat (rd x0 x4)) (wrap64 (x4 + 1))) else (none)) else (none)) else (some x3)
def laws_toIntS.f (k : Nat) (l0 : List Int) : Option (List Int) := if 0 ≤ (l0.length : Int) then (if ((l0.length : Int) : Int).toNat ≤ 35184372088832 then (laws_toIntS.l0 k l0 (List.replicate ((l0.length : Int) : Int).toNat 0) 0) else (none)) else (none)
set_option maxHeartbeats 8000000 in
set_option maxRecDepth 100000 in
theorem laws_toIntS.calls (k : Nat) (A0 : Option Addr) (c0 : Nat) (l0 : List Int) (r : List Int) (w : World) (hr0 : Kd.C (Kd.int .i64) w A0 l0.length l0) (hc0 : l0.length ≤ c0) (h : laws_toIntS.f k l0 = some r) :
 Calls Try.prog 7 #[.slice A0 l0.length c0] w fun e w' => ∃ v0_ : Value, e = .returned (v0_) ∧ Kd.R (Kd.int .i64) 3 w' w.heap.size (fun _ => True) v0_ r ∧ Below w.heap.size w w' := by
 have HR0 := Aside0.mk hr0
 have HC0 := Aside0.mk hc0
 clear hr0 hc0
 have HB := Aside0.mk (Below.refl w.heap.size w)
 have H : (if 0 ≤ (l0.length : Int) then (if ((l0.length : Int) : Int).toNat ≤ 35184372088832 then (laws_toIntS.l0 k l0 (List.replicate ((l0.length : Int) : Int).toNat 0) 0) else (none)) else (none)) = some r := h
 clear h
 by_cases c2 : 0 ≤ (l0.length : Int)
 · rw [if_pos c2] at H
   have c2b0 := eq_true c2
   have c2b1 : decide (0 ≤ (l0.length : Int)) = true := decide_eq_true c2
   clear c2
   by_cases c3 : ((l0.length : Int) : Int).toNat ≤ 35184372088832
   · rw [if_pos c3] at H
     have c3b0 := eq_true c3
     have c3b1 : decide (((l0.length : Int) : Int).toNat ≤ 35184372088832) = true := decide_eq_true c3
     clear c3
     obtain ⟨y245, hy245⟩ : ∃ y_ : List Int, y_ = (List.replicate ((l0.length : Int) : Int).toNat 0) := ⟨_, rfl⟩
     replace H : (laws_toIntS.l0 k l0 y245 0) = some r := by first | (rw [hy245]; with_reducible exact H) | (have H2_ := (Option.bind_some _ _).symm.trans H; rw [hy245]; with_reducible exact H2_) | (have H2_ := (Option.bind_some _ _).symm.trans H; with_reducible exact H2_) | with_reducible exact H | (rw [hy245]; exact H) | exact H
     have Ny245 := Aside0.mk hy245
     clear hy245
     have H' := Aside0.mk H
     clear H
     go_enter Try.func7, Try.ntmps7
     go_wp2_with (first | ((with_reducible refine gate_dst (N := 7) rfl ?_); refine Kd.R_make (Kd.int .i64) _ 3 rfl (N := 7) rfl 22 _ _ rfl (l0.length : Int) rfl rfl Try.underlying22 (.int .i64 0) 8 info3 rfl (by decide) (by omega) 0 (ok := fun _ => True) (okp := fun _ => True) rfl (fun _ hk => hk) trivial (of_decide_eq_true (by first | (with_reducible assumption) | assumption)) (Nat.le_trans (Nat.mul_le_mul_right _ (of_decide_eq_true (by first | (with_reducible assumption) | assumption) : (l0.length : Int).toNat ≤ 35184372088832)) (by omega)) (Below.refl _ _) (Nat.le_refl _) ?_; intro v246 w4 ho5 hb hg_ hnew_; clear hg_ hnew_; (first | rw [← Ny245.out] at ho5 | (simp only [Int.reduceToNat] at ho5; rw [← Ny245.out] at ho5)); have n0_ := Aside0.mk (Kd.R_lower ho5 (below_size (by repeat (first | (with_reducible first | exact HB.out | apply below_alloc | apply pw_below_drewN | apply below_drew1) | exact HB.out)))); have n1_ := Aside0.mk (below_step (by repeat (first | (with_reducible first | exact HB.out | apply below_alloc | apply pw_below_drewN | apply below_drew1) | exact HB.out)) hb); clear HB; have HO247 := n0_; have HB := n1_; clear n0_ n1_; clear hb ho5))
     go_loopg [4] k (fun kq v4 w' => ∃ (x3_1 : List Int) (x4_1 : Int), v4 = .int .i64 x4_1 ∧ Aside0 (laws_toIntS.l0 kq l0 x3_1 x4_1 = some r) ∧ Aside0 (kq ≤ k) ∧ Aside0 (Kd.R (Kd.int .i64) 3 w' w.heap.size (fun _ => True) v246 x3_1) ∧ Aside0 (Below w.heap.size w w'))
     case atStart => exact ⟨(y245), (0), (by first | rfl | (simp; done) | (simp [*]; done)), H', ⟨Nat.le_refl _⟩, ⟨by (with_reducible repeat (first | apply Kd.R_alloc | apply Kd.R_drewN | apply Kd.R_drew)); exact HO247.out⟩, ⟨by repeat (first | (with_reducible first | exact HB.out | apply below_alloc | apply pw_below_drewN | apply below_drew1) | exact HB.out)⟩⟩
     case round =>
      clear H'
      try clear c2
      try clear c2b0
      try clear c2b1
      try clear p2
      try clear c3
      try clear c3b0
      try clear c3b1
      obtain ⟨x3_1, x4_1, rfl, HA, HK1, HO_3, HB⟩ := hrel
      cases gk with
      | zero => exact absurd HA.out (by simp [laws_toIntS.l0])
      | succ k1 =>
       have H := HA.out
       clear HA
       simp only [laws_toIntS.l0] at H
       by_cases c6 : x4_1 < (l0.length : Int)
       · rw [if_pos c6] at H
         have c6b0 : decide (x4_1 < (l0.length : Int)) = true := decide_eq_true c6
         clear c6
         by_cases c7 : 0 ≤ x4_1
         · rw [if_pos c7] at H
           have c7b0 : decide (0 ≤ x4_1) = true := decide_eq_true c7
           clear c7
           by_cases c8 : x4_1 < (x3_1.length : Int)
           · rw [if_pos c8] at H
             have c8b0 : decide (x4_1 < (x3_1.length : Int)) = true := decide_eq_true c8
             clear c8
             obtain ⟨y249, hy249⟩ : ∃ y_ : List Int, y_ = (x3_1.set (x4_1 : Int).toNat (rd l0 x4_1)) := ⟨_, rfl⟩
             replace H : (laws_toIntS.l0 k1 l0 y249 (wrap64 (x4_1 + 1))) = some r := by first | (rw [hy249]; with_reducible exact H) | (have H2_ := (Option.bind_some _ _).symm.trans H; rw [hy249]; with_reducible exact H2_) | (have H2_ := (Option.bind_some _ _).symm.trans H; with_reducible exact H2_) | with_reducible exact H | (rw [hy249]; exact H) | exact H
             have Ny249 := Aside0.mk hy249
             clear hy249
             have H' := Aside0.mk H
             clear H
             have p248 : 0 ≤ (x4_1 : Int) := of_decide_eq_true (by first | (with_reducible assumption) | assumption)
             have q248 : x4_1 < (l0.length : Int) := of_decide_eq_true (by first | (with_reducible assumption) | assumption)
             obtain ⟨ad248, e248, hx248_0⟩ := Kd.at_int HR0.out x4_1 p248 q248
             cases e248
             replace hx248_0 := (HB.out.cell (World.block_lt_of_cell? w _ hx248_0)).trans hx248_0
             replace p248 := eq_true p248
             replace q248 := eq_true q248
             have p9 : 0 ≤ (x4_1 : Int) := of_decide_eq_true (by first | (with_reducible assumption) | assumption)
             have q9 : (x4_1 : Int) < ((x3_1.length : Int) : Int) := of_decide_eq_true (by first | (with_reducible assumption) | assumption)
             obtain ⟨go9, co9, eo9, gb9, gl9, cl9, HG9⟩ := Kd.R_form HO_3.out (by omega)
             (first | cases eo9 | (injection eo9 with ea_ en_ ec_; (first | subst ea_ | (injection ea_ with ea_; subst ea_)); subst ec_; clear en_))
             have GB9 := Aside0.mk gb9
             have GG9 := Aside0.mk HG9
             clear gb9 gl9 HG9
             obtain ⟨hx9_0, hf9_0⟩ := Kd.R_celln 0 HO_3.out (x4_1 : Int) p9 q9
             replace p9 := eq_true p9
             replace q9 := eq_true q9
             have HP10 := Kd.R_putg HO_3.out (x4_1 : Int) (rd l0 x4_1)
             go_wp2_with (first | ((with_reducible refine gate_store (t := 3) (p := 20) rfl ?_); refine store_event (t := 3) (p := 20) (v := ?vo_w11) (w1 := (wr.setCell ⟨go9, (x4_1 : Int).toNat, none⟩ (.int .i64 (rd l0 x4_1)))) ?hg ?ho ?hn ?hr ?_; (case ho => rfl); (case hg => rfl); (case hn => rfl); (case hr => first | (go_simp; done) | (go_simp; rfl)); intro w11 hw; have hg : wr.grownBy w11 (some go9) := (by rw [hw]; exact HP10.2); have hp_ : Kd.R (Kd.int .i64) 3 w11 w.heap.size (fun _ => True) (.slice (some ⟨go9, 0, none⟩) x3_1.length co9) y249 := (by rw [hw, Ny249.out]; exact HP10.1); clear HP10; have n0_ := Aside0.mk (hp_); have n1_ := Aside0.mk ((by rw [hw]; exact below_set (HB.out) GB9.out : Below w.heap.size w w11)); clear HO_3; clear HB; have HO_3 := n0_; have HB := n1_; clear n0_ n1_; clear hg hw hp_))
             go_roundg k1
             case measure => have := HK1.out; omega
             case rel => exact ⟨(y249), (wrap64 (x4_1 + 1)), (by first | rfl | (simp; done) | (simp [*]; done)), H', ⟨by have := HK1.out; omega⟩, ⟨by (with_reducible repeat (first | apply Kd.R_alloc | apply Kd.R_drewN | apply Kd.R_drew)); exact HO_3.out⟩, ⟨by repeat (first | (with_reducible first | exact HB.out | apply below_alloc | apply pw_below_drewN | apply below_drew1) | exact HB.out)⟩⟩
           · rw [if_neg c8] at H
             exact absurd H (by simp)
         · rw [if_neg c7] at H
           exact absurd H (by simp)
       · rw [if_neg c6] at H
         have c6b0 : decide (x4_1 < (l0.length : Int)) = false := decide_eq_false c6
         clear c6
         obtain rfl := Option.some.inj H
         go_wp2
         go_ret
         exact ⟨_, by first | rfl | (simp [errW_none, errW_some] <;> rfl) | (simp [*, errW_none, errW_some] <;> rfl), by (with_reducible repeat (first | apply Kd.R_alloc | apply Kd.R_drewN | apply Kd.R_drew)); exact HO_3.out, by repeat (first | (with_reducible first | exact HB.out | apply below_alloc | apply pw_below_drewN | apply below_drew1) | exact HB.out)⟩
   · rw [if_neg c3] at H
     exact absurd H (by simp)
 · rw [if_neg c2] at H
   exact absurd H (by simp)

end Go.Proofs.Ytdkimdlbjeobiaa.A

-- made by a program of this repo (wip/pp.py) through the kit's printer
namespace Go.Proofs.Ytdkimdlbjeobiaa.A
open Go.RowKit Go.Proofs.YtdkimdlbjeobiaaW.PrintWords Go.Proofs.YtdkimdlbjeobiaaW.PrintLast Go.Proofs.YtdkimdlbjeobiaaW.PrintMore
attribute [local go_sem] max2_int min2_int max_two min_two max_three min_three max_four min_four
set_option linter.unusedVariables false
set_option linter.unusedSimpArgs false

/-! ### laws_eqIntSS: function 9 -/
def laws_eqIntSS.l0 : Nat → List (List Int) → List (List Int) → Int → Option (Bool)
 | 0, _, _, _ => none
 | k + 1, x0, x1, x5 => if x5 < (x0.length : Int) then (if 0 ≤ x5 then (if x5 < (x1.length : Int) then ((laws_eqIntS.f k (rd_L1 x0 x5) (rd_L1 x1 x5)).bind fun t281 => (if t281 = true then (laws_eqIntSS.l0 k x0 x1 (wrap64 (x5 + 1))) else (some false))) else (none)) else (none)) else (some true)
def laws_eqIntSS.f (k : Nat) (l0 : List (List Int)) (l1 : List (List Int)) : Option (Bool) := if (l0.length : Int) = (l1.length : Int) then (laws_eqIntSS.l0 k l0 l1 0) else (some false)
set_option maxHeartbeats 8000000 in
set_option maxRecDepth 100000 in
theorem laws_eqIntSS.calls (k : Nat) (A0 : Option Addr) (c0 : Nat) (l0 : List (List Int)) (A1 : Option Addr) (c1 : Nat) (l1 : List (List Int)) (r : Bool) (w : World) (hr0 : Kd.C (Kd.slice 3 (Kd.int .i64)) w A0 l0.length l0) (hc0 : l0.length ≤ c0) (hr1 : Kd.C (Kd.slice 3 (Kd.int .i64)) w A1 l1.length l1) (hc1 : l1.length ≤ c1) (h : laws_eqIntSS.f k l0 l1 = some r) :
 Calls Try.prog 9 #[.slice A0 l0.length c0, .slice A1 l1.length c1] w fun e w' => e = .returned (.bool r) ∧ Drawn0 w w' := by
 have HR0 := Aside0.mk hr0
 have HC0 := Aside0.mk hc0
 clear hr0 hc0
 have HR1 := Aside0.mk hr1
 have HC1 := Aside0.mk hc1
 clear hr1 hc1
 have H : (if (l0.length : Int) = (l1.length : Int) then (laws_eqIntSS.l0 k l0 l1 0) else (some false)) = some r := h
 clear h
 by_cases c3 : (l0.length : Int) = (l1.length : Int)
 · rw [if_pos c3] at H
   have c3b0 : ((l0.length : Int) == (l1.length : Int)) = true := beq_iff_eq.mpr c3
   have c3b1 : ((l0.length : Int) != (l1.length : Int)) = false := bne_eq_false_iff_eq.mpr c3
   have c3b2 : (l0.length == l1.length) = true := by first | simpa using c3 | (simp at c3 ⊢; omega)
   clear c3
   have H' := Aside0.mk H
   clear H
   go_enter Try.func9, Try.ntmps9
   go_wp2
   repeat (go_quiet (fail); try go_wp2)
   go_loopg [5] k (fun kq v5 w' => ∃ (x5_1 : Int), v5 = .int .i64 x5_1 ∧ Aside0 (laws_eqIntSS.l0 kq l0 l1 x5_1 = some r) ∧ Aside0 (kq ≤ k) ∧ Drawn0 w w')
   case atStart => exact ⟨(0), (by first | rfl | (simp; done) | (simp [*]; done)), H', ⟨Nat.le_refl _⟩, by repeat (first | exact Drawn0.refl _ | apply Drawn0.step)⟩
   case round =>
    clear H'
    try clear c1
    try clear p2
    try clear c3
    try clear c3b0
    try clear c3b1
    try clear c3b2
    obtain ⟨x5_1, rfl, HA, HK1, ⟨m1, rfl⟩⟩ := hrel
    cases gk with
    | zero => exact absurd HA.out (by simp [laws_eqIntSS.l0])
    | succ k1 =>
     have H := HA.out
     clear HA
     simp only [laws_eqIntSS.l0] at H
     by_cases c4 : x5_1 < (l0.length : Int)
     · rw [if_pos c4] at H
       have c4b0 : decide (x5_1 < (l0.length : Int)) = true := decide_eq_true c4
       clear c4
       by_cases c5 : 0 ≤ x5_1
       · rw [if_pos c5] at H
         have c5b0 : decide (0 ≤ x5_1) = true := decide_eq_true c5
         clear c5
         by_cases c6 : x5_1 < (l1.length : Int)
         · rw [if_pos c6] at H
           have c6b0 : decide (x5_1 < (l1.length : Int)) = true := decide_eq_true c6
           clear c6
           replace H := Option.bind_eq_some_iff.mp H
           obtain ⟨t281, A70, H⟩ := H
           replace H : (if t281 = true then (laws_eqIntSS.l0 k1 l0 l1 (wrap64 (x5_1 + 1))) else (some false)) = some r := H
           have A7 := Aside0.mk A70
           clear A70
           by_cases c8 : t281 = true
           · subst c8
             have H1 : (laws_eqIntSS.l0 k1 l0 l1 (wrap64 (x5_1 + 1))) = some r := by rw [if_pos rfl] at H; exact H
             clear H
             have H := H1
             clear H1
             have H' := Aside0.mk H
             clear H
             have p279 : 0 ≤ (x5_1 : Int) := of_decide_eq_true (by first | (with_reducible assumption) | assumption)
             have q279 : x5_1 < (l0.length : Int) := of_decide_eq_true (by first | (with_reducible assumption) | assumption)
             obtain ⟨ad279, A279_0, c279_0, e279, hx279_0, hl279_0, hi279_0⟩ := at_L1 HR0.out x5_1 p279 q279
             cases e279
             have HR279_0 := Aside0.mk hi279_0
             have HC279_0 := Aside0.mk hl279_0
             clear hi279_0 hl279_0
             replace p279 := eq_true p279
             replace q279 := eq_true q279
             have p280 : 0 ≤ (x5_1 : Int) := of_decide_eq_true (by first | (with_reducible assumption) | assumption)
             have q280 : x5_1 < (l1.length : Int) := of_decide_eq_true (by first | (with_reducible assumption) | assumption)
             obtain ⟨ad280, A280_0, c280_0, e280, hx280_0, hl280_0, hi280_0⟩ := at_L1 HR1.out x5_1 p280 q280
             cases e280
             have HR280_0 := Aside0.mk hi280_0
             have HC280_0 := Aside0.mk hl280_0
             clear hi280_0 hl280_0
             replace p280 := eq_true p280
             replace q280 := eq_true q280
             go_wp2_with (first | (go_at_call 10; (with_reducible refine (laws_eqIntS.calls k1 _ _ (rd_L1 l0 x5_1) _ _ (rd_L1 l1 x5_1) true _ ?side1 ?side2 ?side3 ?side4 A7.out).mono ?_); (case side1 => repeat (first | exact HR279_0.out | (with_reducible refine Kd.C_alloc ?_ _) | (with_reducible refine Kd.C_drewN ?_ _) | (with_reducible refine Kd.C_drew ?_))); (case side2 => exact HC279_0.out); (case side3 => repeat (first | exact HR280_0.out | (with_reducible refine Kd.C_alloc ?_ _) | (with_reducible refine Kd.C_drewN ?_ _) | (with_reducible refine Kd.C_drew ?_))); (case side4 => exact HC280_0.out); rintro e w' ⟨rfl, ⟨nd, rfl⟩⟩; (try first | exact ⟨rfl, _, World.drewN_drewN _ _ _⟩ | exact ⟨rfl, _, Eq.trans (World.drewN_drewN _ _ _) (congrArg (World.drewN _) (Nat.add_assoc _ _ _))⟩)))
             repeat (go_quiet (first | (go_at_call 10; (with_reducible refine (laws_eqIntS.calls k1 _ _ (rd_L1 l0 x5_1) _ _ (rd_L1 l1 x5_1) true _ ?side1 ?side2 ?side3 ?side4 A7.out).mono ?_); (case side1 => repeat (first | exact HR279_0.out | (with_reducible refine Kd.C_alloc ?_ _) | (with_reducible refine Kd.C_drewN ?_ _) | (with_reducible refine Kd.C_drew ?_))); (case side2 => exact HC279_0.out); (case side3 => repeat (first | exact HR280_0.out | (with_reducible refine Kd.C_alloc ?_ _) | (with_reducible refine Kd.C_drewN ?_ _) | (with_reducible refine Kd.C_drew ?_))); (case side4 => exact HC280_0.out); rintro e w' ⟨rfl, ⟨nd, rfl⟩⟩; (try first | exact ⟨rfl, _, World.drewN_drewN _ _ _⟩ | exact ⟨rfl, _, Eq.trans (World.drewN_drewN _ _ _) (congrArg (World.drewN _) (Nat.add_assoc _ _ _))⟩))); try go_wp2_with (first | (go_at_call 10; (with_reducible refine (laws_eqIntS.calls k1 _ _ (rd_L1 l0 x5_1) _ _ (rd_L1 l1 x5_1) true _ ?side1 ?side2 ?side3 ?side4 A7.out).mono ?_); (case side1 => repeat (first | exact HR279_0.out | (with_reducible refine Kd.C_alloc ?_ _) | (with_reducible refine Kd.C_drewN ?_ _) | (with_reducible refine Kd.C_drew ?_))); (case side2 => exact HC279_0.out); (case side3 => repeat (first | exact HR280_0.out | (with_reducible refine Kd.C_alloc ?_ _) | (with_reducible refine Kd.C_drewN ?_ _) | (with_reducible refine Kd.C_drew ?_))); (case side4 => exact HC280_0.out); rintro e w' ⟨rfl, ⟨nd, rfl⟩⟩; (try first | exact ⟨rfl, _, World.drewN_drewN _ _ _⟩ | exact ⟨rfl, _, Eq.trans (World.drewN_drewN _ _ _) (congrArg (World.drewN _) (Nat.add_assoc _ _ _))⟩))))
             go_roundg k1
             case measure => have := HK1.out; omega
             case rel => exact ⟨(wrap64 (x5_1 + 1)), (by first | rfl | (simp; done) | (simp [*]; done)), H', ⟨by have := HK1.out; omega⟩, by repeat (first | exact Drawn0.refl _ | apply Drawn0.step)⟩
           · replace c8 := Bool.eq_false_iff.mpr c8
             subst c8
             have H1 : (some false) = some r := by rw [if_neg (show ¬ (false = true) by decide)] at H; exact H
             clear H
             have H := H1
             clear H1
             obtain rfl := Option.some.inj H
             have p279 : 0 ≤ (x5_1 : Int) := of_decide_eq_true (by first | (with_reducible assumption) | assumption)
             have q279 : x5_1 < (l0.length : Int) := of_decide_eq_true (by first | (with_reducible assumption) | assumption)
             obtain ⟨ad279, A279_0, c279_0, e279, hx279_0, hl279_0, hi279_0⟩ := at_L1 HR0.out x5_1 p279 q279
             cases e279
             have HR279_0 := Aside0.mk hi279_0
             have HC279_0 := Aside0.mk hl279_0
             clear hi279_0 hl279_0
             replace p279 := eq_true p279
             replace q279 := eq_true q279
             have p280 : 0 ≤ (x5_1 : Int) := of_decide_eq_true (by first | (with_reducible assumption) | assumption)
             have q280 : x5_1 < (l1.length : Int) := of_decide_eq_true (by first | (with_reducible assumption) | assumption)
             obtain ⟨ad280, A280_0, c280_0, e280, hx280_0, hl280_0, hi280_0⟩ := at_L1 HR1.out x5_1 p280 q280
             cases e280
             have HR280_0 := Aside0.mk hi280_0
             have HC280_0 := Aside0.mk hl280_0
             clear hi280_0 hl280_0
             replace p280 := eq_true p280
             replace q280 := eq_true q280
             go_wp2_with (first | (go_at_call 10; (with_reducible refine (laws_eqIntS.calls k1 _ _ (rd_L1 l0 x5_1) _ _ (rd_L1 l1 x5_1) false _ ?side1 ?side2 ?side3 ?side4 A7.out).mono ?_); (case side1 => repeat (first | exact HR279_0.out | (with_reducible refine Kd.C_alloc ?_ _) | (with_reducible refine Kd.C_drewN ?_ _) | (with_reducible refine Kd.C_drew ?_))); (case side2 => exact HC279_0.out); (case side3 => repeat (first | exact HR280_0.out | (with_reducible refine Kd.C_alloc ?_ _) | (with_reducible refine Kd.C_drewN ?_ _) | (with_reducible refine Kd.C_drew ?_))); (case side4 => exact HC280_0.out); rintro e w' ⟨rfl, ⟨nd, rfl⟩⟩; (try first | exact ⟨rfl, _, World.drewN_drewN _ _ _⟩ | exact ⟨rfl, _, Eq.trans (World.drewN_drewN _ _ _) (congrArg (World.drewN _) (Nat.add_assoc _ _ _))⟩)))
             repeat (go_quiet (first | (go_at_call 10; (with_reducible refine (laws_eqIntS.calls k1 _ _ (rd_L1 l0 x5_1) _ _ (rd_L1 l1 x5_1) false _ ?side1 ?side2 ?side3 ?side4 A7.out).mono ?_); (case side1 => repeat (first | exact HR279_0.out | (with_reducible refine Kd.C_alloc ?_ _) | (with_reducible refine Kd.C_drewN ?_ _) | (with_reducible refine Kd.C_drew ?_))); (case side2 => exact HC279_0.out); (case side3 => repeat (first | exact HR280_0.out | (with_reducible refine Kd.C_alloc ?_ _) | (with_reducible refine Kd.C_drewN ?_ _) | (with_reducible refine Kd.C_drew ?_))); (case side4 => exact HC280_0.out); rintro e w' ⟨rfl, ⟨nd, rfl⟩⟩; (try first | exact ⟨rfl, _, World.drewN_drewN _ _ _⟩ | exact ⟨rfl, _, Eq.trans (World.drewN_drewN _ _ _) (congrArg (World.drewN _) (Nat.add_assoc _ _ _))⟩))); try go_wp2_with (first | (go_at_call 10; (with_reducible refine (laws_eqIntS.calls k1 _ _ (rd_L1 l0 x5_1) _ _ (rd_L1 l1 x5_1) false _ ?side1 ?side2 ?side3 ?side4 A7.out).mono ?_); (case side1 => repeat (first | exact HR279_0.out | (with_reducible refine Kd.C_alloc ?_ _) | (with_reducible refine Kd.C_drewN ?_ _) | (with_reducible refine Kd.C_drew ?_))); (case side2 => exact HC279_0.out); (case side3 => repeat (first | exact HR280_0.out | (with_reducible refine Kd.C_alloc ?_ _) | (with_reducible refine Kd.C_drewN ?_ _) | (with_reducible refine Kd.C_drew ?_))); (case side4 => exact HC280_0.out); rintro e w' ⟨rfl, ⟨nd, rfl⟩⟩; (try first | exact ⟨rfl, _, World.drewN_drewN _ _ _⟩ | exact ⟨rfl, _, Eq.trans (World.drewN_drewN _ _ _) (congrArg (World.drewN _) (Nat.add_assoc _ _ _))⟩))))
             go_ret
             exact ⟨by first | rfl | (simp; done) | (simp [*]; done), by repeat (first | exact Drawn0.refl _ | apply Drawn0.step)⟩
         · rw [if_neg c6] at H
           exact absurd H (by simp)
       · rw [if_neg c5] at H
         exact absurd H (by simp)
     · rw [if_neg c4] at H
       have c4b0 : decide (x5_1 < (l0.length : Int)) = false := decide_eq_false c4
       clear c4
       obtain rfl := Option.some.inj H
       go_wp2
       repeat (go_quiet (fail); try go_wp2)
       go_ret
       exact ⟨by first | rfl | (simp; done) | (simp [*]; done), by repeat (first | exact Drawn0.refl _ | apply Drawn0.step)⟩
 · rw [if_neg c3] at H
   have c3b0 : ((l0.length : Int) == (l1.length : Int)) = false := beq_eq_false_iff_ne.mpr c3
   have c3b1 : ((l0.length : Int) != (l1.length : Int)) = true := bne_iff_ne.mpr c3
   have c3b2 : (l0.length == l1.length) = false := by first | simpa using c3 | (simp at c3 ⊢; omega)
   obtain rfl := Option.some.inj H
   go_enter Try.func9, Try.ntmps9
   go_wp2
   repeat (go_quiet (fail); try go_wp2)
   go_ret
   exact ⟨by first | rfl | (simp; done) | (simp [*]; done), by repeat (first | exact Drawn0.refl _ | apply Drawn0.step)⟩

end Go.Proofs.Ytdkimdlbjeobiaa.A

-- made by a program of this repo (wip/pp.py) through the kit's printer
namespace Go.Proofs.Ytdkimdlbjeobiaa.A
open Go.RowKit Go.Proofs.YtdkimdlbjeobiaaW.PrintWords Go.Proofs.YtdkimdlbjeobiaaW.PrintLast Go.Proofs.YtdkimdlbjeobiaaW.PrintMore
attribute [local go_sem] max2_int min2_int max_two min_two max_three min_three max_four min_four
set_option linter.unusedVariables false
set_option linter.unusedSimpArgs false

/-! ### impl_within: function 64 -/
def impl_within.f (a0 : Int) (a1 : Int) (a2 : Int) : Option (Bool) := if a0 ≥ a1 then (some (decide (a0 ≤ a2))) else (some false)
set_option maxHeartbeats 8000000 in
set_option maxRecDepth 100000 in
theorem impl_within.calls (a0 : Int) (a1 : Int) (a2 : Int) (r : Bool) (w : World) (h : impl_within.f a0 a1 a2 = some r) :
 Calls Try.prog 64 #[.int .i64 a0, .int .i64 a1, .int .i64 a2] w fun e w' => e = .returned (.bool r) ∧ Drawn0 w w' := by
 have H : (if a0 ≥ a1 then (some (decide (a0 ≤ a2))) else (some false)) = some r := h
 clear h
 by_cases c4 : a0 ≥ a1
 · rw [if_pos c4] at H
   have c4b0 : decide (a1 ≤ a0) = true := decide_eq_true c4
   clear c4
   obtain rfl := Option.some.inj H
   go_enter Try.func64, Try.ntmps64
   go_wp2
   go_ret
   exact ⟨by first | rfl | (simp; done) | (simp [*]; done), by repeat (first | exact Drawn0.refl _ | apply Drawn0.step)⟩
 · rw [if_neg c4] at H
   have c4b0 : decide (a1 ≤ a0) = false := decide_eq_false c4
   clear c4
   obtain rfl := Option.some.inj H
   go_enter Try.func64, Try.ntmps64
   go_wp2
   go_ret
   exact ⟨by first | rfl | (simp; done) | (simp [*]; done), by repeat (first | exact Drawn0.refl _ | apply Drawn0.step)⟩

end Go.Proofs.Ytdkimdlbjeobiaa.A

-- made by a program of this repo (wip/pp.py) through the kit's printer
namespace Go.Proofs.Ytdkimdlbjeobiaa.A
open Go.RowKit Go.Proofs.YtdkimdlbjeobiaaW.PrintWords Go.Proofs.YtdkimdlbjeobiaaW.PrintLast Go.Proofs.YtdkimdlbjeobiaaW.PrintMore
attribute [local go_sem] max2_int min2_int max_two min_two max_three min_three max_four min_four
set_option linter.unusedVariables false
set_option linter.unusedSimpArgs false

/-! ### impl_allWithin: function 72 -/
def impl_allWithin.l0 : Nat → Int → Int → List Int → Int → Int → Option (Bool)
 | 0, _, _, _, _, _ => none
 | k + 1, x1, x2, x9, x10, x11 => if x11 < x10 then (if 0 ≤ x11 then (if x11 < (x9.length : Int) then ((impl_within.f (rd x9 x11) x1 x2).bind fun t251 => (if t251 = true then (impl_allWithin.l0 k x1 x2 x9 x10 (wrap64 (x11 + 1))) else (some false))) else (none)) else (none)) else (some true)
def impl_allWithin.f (k : Nat) (l0 : List Int) (a1 : Int) (a2 : Int) : Option (Bool) := impl_allWithin.l0 k a1 a2 l0 (l0.length : Int) 0
set_option maxHeartbeats 8000000 in
set_option maxRecDepth 100000 in
theorem impl_allWithin.calls (k : Nat) (A0 : Option Addr) (c0 : Nat) (l0 : List Int) (a1 : Int) (a2 : Int) (r : Bool) (w : World) (hr0 : Kd.C (Kd.int .i64) w A0 l0.length l0) (hc0 : l0.length ≤ c0) (h : impl_allWithin.f k l0 a1 a2 = some r) :
 Calls Try.prog 72 #[.slice A0 l0.length c0, .int .i64 a1, .int .i64 a2] w fun e w' => e = .returned (.bool r) ∧ Drawn0 w w' := by
 have HR0 := Aside0.mk hr0
 have HC0 := Aside0.mk hc0
 clear hr0 hc0
 have H : (impl_allWithin.l0 k a1 a2 l0 (l0.length : Int) 0) = some r := h
 clear h
 have H' := Aside0.mk H
 clear H
 go_enter Try.func72, Try.ntmps72
 go_wp2
 go_loopg [11] k (fun kq v11 w' => ∃ (x11_1 : Int), v11 = .int .i64 x11_1 ∧ Aside0 (impl_allWithin.l0 kq a1 a2 l0 (l0.length : Int) x11_1 = some r) ∧ Aside0 (kq ≤ k) ∧ Drawn0 w w')
 case atStart => exact ⟨(0), (by first | rfl | (simp; done) | (simp [*]; done)), H', ⟨Nat.le_refl _⟩, by repeat (first | exact Drawn0.refl _ | apply Drawn0.step)⟩
 case round =>
  clear H'
  try clear p2
  obtain ⟨x11_1, rfl, HA, HK1, ⟨m1, rfl⟩⟩ := hrel
  cases gk with
  | zero => exact absurd HA.out (by simp [impl_allWithin.l0])
  | succ k1 =>
   have H := HA.out
   clear HA
   simp only [impl_allWithin.l0] at H
   by_cases c4 : x11_1 < (l0.length : Int)
   · rw [if_pos c4] at H
     have c4b0 : decide (x11_1 < (l0.length : Int)) = true := decide_eq_true c4
     clear c4
     by_cases c5 : 0 ≤ x11_1
     · rw [if_pos c5] at H
       have c5b0 : decide (0 ≤ x11_1) = true := decide_eq_true c5
       clear c5
       by_cases c6 : x11_1 < (l0.length : Int)
       · rw [if_pos c6] at H
         have c6b0 : decide (x11_1 < (l0.length : Int)) = true := decide_eq_true c6
         clear c6
         replace H := Option.bind_eq_some_iff.mp H
         obtain ⟨t251, A70, H⟩ := H
         replace H : (if t251 = true then (impl_allWithin.l0 k1 a1 a2 l0 (l0.length : Int) (wrap64 (x11_1 + 1))) else (some false)) = some r := H
         have A7 := Aside0.mk A70
         clear A70
         by_cases c8 : t251 = true
         · subst c8
           have H1 : (impl_allWithin.l0 k1 a1 a2 l0 (l0.length : Int) (wrap64 (x11_1 + 1))) = some r := by rw [if_pos rfl] at H; exact H
           clear H
           have H := H1
           clear H1
           have H' := Aside0.mk H
           clear H
           have p250 : 0 ≤ (x11_1 : Int) := of_decide_eq_true (by first | (with_reducible assumption) | assumption)
           have q250 : x11_1 < (l0.length : Int) := of_decide_eq_true (by first | (with_reducible assumption) | assumption)
           obtain ⟨ad250, e250, hx250_0⟩ := Kd.at_int HR0.out x11_1 p250 q250
           cases e250
           replace p250 := eq_true p250
           replace q250 := eq_true q250
           go_wp2_with (first | ((with_reducible refine gate_callee (f := 64) rfl ?_); refine goesL_ (some 18) rfl rfl Try.func64 (by kernel_rfl) rfl #[.int .i64 (rd l0 x11_1), .int .i64 a1, .int .i64 a2] rfl (by (try simp only [List.map_toArray, List.map_cons, List.map_nil]); first | done | rfl | (simp only [List.length_drop, List.length_take]; rfl)) ?_; (with_reducible refine (impl_within.calls (rd l0 x11_1) a1 a2 true _ A7.out).mono ?_); rintro e w' ⟨rfl, ⟨nd, rfl⟩⟩; refine ⟨_, rfl, ?_⟩))
           go_roundg k1
           case measure => have := HK1.out; omega
           case rel => exact ⟨(wrap64 (x11_1 + 1)), (by first | rfl | (simp; done) | (simp [*]; done)), H', ⟨by have := HK1.out; omega⟩, by repeat (first | exact Drawn0.refl _ | apply Drawn0.step)⟩
         · replace c8 := Bool.eq_false_iff.mpr c8
           subst c8
           have H1 : (some false) = some r := by rw [if_neg (show ¬ (false = true) by decide)] at H; exact H
           clear H
           have H := H1
           clear H1
           obtain rfl := Option.some.inj H
           have p250 : 0 ≤ (x11_1 : Int) := of_decide_eq_true (by first | (with_reducible assumption) | assumption)
           have q250 : x11_1 < (l0.length : Int) := of_decide_eq_true (by first | (with_reducible assumption) | assumption)
           obtain ⟨ad250, e250, hx250_0⟩ := Kd.at_int HR0.out x11_1 p250 q250
           cases e250
           replace p250 := eq_true p250
           replace q250 := eq_true q250
           go_wp2_with (first | ((with_reducible refine gate_callee (f := 64) rfl ?_); refine goesL_ (some 18) rfl rfl Try.func64 (by kernel_rfl) rfl #[.int .i64 (rd l0 x11_1), .int .i64 a1, .int .i64 a2] rfl (by (try simp only [List.map_toArray, List.map_cons, List.map_nil]); first | done | rfl | (simp only [List.length_drop, List.length_take]; rfl)) ?_; (with_reducible refine (impl_within.calls (rd l0 x11_1) a1 a2 false _ A7.out).mono ?_); rintro e w' ⟨rfl, ⟨nd, rfl⟩⟩; refine ⟨_, rfl, ?_⟩))
           go_ret
           exact ⟨by first | rfl | (simp; done) | (simp [*]; done), by repeat (first | exact Drawn0.refl _ | apply Drawn0.step)⟩
       · rw [if_neg c6] at H
         exact absurd H (by simp)
     · rw [if_neg c5] at H
       exact absurd H (by simp)
   · rw [if_neg c4] at H
     have c4b0 : decide (x11_1 < (l0.length : Int)) = false := decide_eq_false c4
     clear c4
     obtain rfl := Option.some.inj H
     go_wp2
     go_ret
     exact ⟨by first | rfl | (simp; done) | (simp [*]; done), by repeat (first | exact Drawn0.refl _ | apply Drawn0.step)⟩

end Go.Proofs.Ytdkimdlbjeobiaa.A

-- made by a program of this repo (wip/pp.py) through the kit's printer
namespace Go.Proofs.Ytdkimdlbjeobiaa.A
open Go.RowKit Go.Proofs.YtdkimdlbjeobiaaW.PrintWords Go.Proofs.YtdkimdlbjeobiaaW.PrintLast Go.Proofs.YtdkimdlbjeobiaaW.PrintMore
attribute [local go_sem] max2_int min2_int max_two min_two max_three min_three max_four min_four
set_option linter.unusedVariables false
set_option linter.unusedSimpArgs false

/-! ### impl_IsList: function 38 -/
def impl_IsList.f (k : Nat) (l0 : List Int) : Option (Bool) := (impl_within.f (l0.length : Int) 1 8).bind fun t252 => (if t252 = true then ((impl_allWithin.f k l0 0 60).bind fun t253 => (some t253)) else (some false))
set_option maxHeartbeats 8000000 in
set_option maxRecDepth 100000 in
theorem impl_IsList.calls (k : Nat) (A0 : Option Addr) (c0 : Nat) (l0 : List Int) (r : Bool) (w : World) (hr0 : Kd.C (Kd.int .i64) w A0 l0.length l0) (hc0 : l0.length ≤ c0) (h : impl_IsList.f k l0 = some r) :
 Calls Try.prog 38 #[.slice A0 l0.length c0] w fun e w' => e = .returned (.bool r) ∧ Drawn0 w w' := by
 have HR0 := Aside0.mk hr0
 have HC0 := Aside0.mk hc0
 clear hr0 hc0
 have H : ((impl_within.f (l0.length : Int) 1 8).bind fun t252 => (if t252 = true then ((impl_allWithin.f k l0 0 60).bind fun t253 => (some t253)) else (some false))) = some r := h
 clear h
 replace H := Option.bind_eq_some_iff.mp H
 obtain ⟨t252, A20, H⟩ := H
 replace H : (if t252 = true then ((impl_allWithin.f k l0 0 60).bind fun t253 => (some t253)) else (some false)) = some r := H
 have A2 := Aside0.mk A20
 clear A20
 by_cases c3 : t252 = true
 · subst c3
   have H1 : ((impl_allWithin.f k l0 0 60).bind fun t253 => (some t253)) = some r := by rw [if_pos rfl] at H; exact H
   clear H
   have H := H1
   clear H1
   replace H := Option.bind_eq_some_iff.mp H
   obtain ⟨t253, A40, H⟩ := H
   replace H : (some t253) = some r := H
   have A4 := Aside0.mk A40
   clear A40
   obtain rfl := Option.some.inj H
   go_enter Try.func38, Try.ntmps38
   go_wp2_with (first | ((with_reducible refine gate_callee (f := 64) rfl ?_); refine goesL_ (some 5) rfl rfl Try.func64 (by kernel_rfl) rfl #[.int .i64 (l0.length : Int), .int .i64 1, .int .i64 8] rfl (by (try simp only [List.map_toArray, List.map_cons, List.map_nil]); first | done | rfl | (simp only [List.length_drop, List.length_take]; rfl)) ?_; (with_reducible refine (impl_within.calls (l0.length : Int) 1 8 true _ A2.out).mono ?_); rintro e w' ⟨rfl, ⟨nd, rfl⟩⟩; refine ⟨_, rfl, ?_⟩) | (go_at_call 72; (with_reducible refine (impl_allWithin.calls k _ _ l0 0 60 t253 _ ?side1 ?side2 A4.out).mono ?_); (case side1 => repeat (first | exact HR0.out | (with_reducible refine Kd.C_alloc ?_ _) | (with_reducible refine Kd.C_drewN ?_ _) | (with_reducible refine Kd.C_drew ?_))); (case side2 => exact HC0.out); rintro e w' ⟨rfl, ⟨nd, rfl⟩⟩))
   go_ret
   exact ⟨by first | rfl | (simp; done) | (simp [*]; done), by repeat (first | exact Drawn0.refl _ | apply Drawn0.step)⟩
 · replace c3 := Bool.eq_false_iff.mpr c3
   subst c3
   have H1 : (some false) = some r := by rw [if_neg (show ¬ (false = true) by decide)] at H; exact H
   clear H
   have H := H1
   clear H1
   obtain rfl := Option.some.inj H
   go_enter Try.func38, Try.ntmps38
   go_wp2_with (first | ((with_reducible refine gate_callee (f := 64) rfl ?_); refine goesL_ (some 5) rfl rfl Try.func64 (by kernel_rfl) rfl #[.int .i64 (l0.length : Int), .int .i64 1, .int .i64 8] rfl (by (try simp only [List.map_toArray, List.map_cons, List.map_nil]); first | done | rfl | (simp only [List.length_drop, List.length_take]; rfl)) ?_; (with_reducible refine (impl_within.calls (l0.length : Int) 1 8 false _ A2.out).mono ?_); rintro e w' ⟨rfl, ⟨nd, rfl⟩⟩; refine ⟨_, rfl, ?_⟩))
   go_ret
   exact ⟨by first | rfl | (simp; done) | (simp [*]; done), by repeat (first | exact Drawn0.refl _ | apply Drawn0.step)⟩

end Go.Proofs.Ytdkimdlbjeobiaa.A

-- made by a program of this repo (wip/pp.py) through the kit's printer
namespace Go.Proofs.Ytdkimdlbjeobiaa.A
open Go.RowKit Go.Proofs.YtdkimdlbjeobiaaW.PrintWords Go.Proofs.YtdkimdlbjeobiaaW.PrintLast Go.Proofs.YtdkimdlbjeobiaaW.PrintMore
attribute [local go_sem] max2_int min2_int max_two min_two max_three min_three max_four min_four
set_option linter.unusedVariables false
set_option linter.unusedSimpArgs false

/-! ### impl_total: function 39 -/
def impl_total.l0 : Nat → Int → List Int → Int → Int → Option (Int)
 | 0, _, _, _, _ => none
 | k + 1, x3, x6, x7, x8 => if x8 < x7 then (if 0 ≤ x8 then (if x8 < (x6.length : Int) then (impl_total.l0 k (wrap64 (x3 + (rd x6 x8))) x6 x7 (wrap64 (x8 + 1))) else (none)) else (none)) else (some x3)
def impl_total.f (k : Nat) (l0 : List Int) : Option (Int) := impl_total.l0 k 0 l0 (l0.length : Int) 0
set_option maxHeartbeats 8000000 in
set_option maxRecDepth 100000 in
theorem impl_total.calls (k : Nat) (A0 : Option Addr) (c0 : Nat) (l0 : List Int) (r : Int) (w : World) (hr0 : Kd.C (Kd.int .i64) w A0 l0.length l0) (hc0 : l0.length ≤ c0) (h : impl_total.f k l0 = some r) :
 Calls Try.prog 39 #[.slice A0 l0.length c0] w fun e w' => e = .returned (.int .i64 r) ∧ Drawn0 w w' := by
 have HR0 := Aside0.mk hr0
 have HC0 := Aside0.mk hc0
 clear hr0 hc0
 have H : (impl_total.l0 k 0 l0 (l0.length : Int) 0) = some r := h
 clear h
 have H' := Aside0.mk H
 clear H
 go_enter Try.func39, Try.ntmps39
 go_wp2
 go_loopg [3, 8] k (fun kq v3 v8 w' => ∃ (x3_1 : Int) (x8_1 : Int), v3 = .int .i64 x3_1 ∧ v8 = .int .i64 x8_1 ∧ Aside0 (impl_total.l0 kq x3_1 l0 (l0.length : Int) x8_1 = some r) ∧ Aside0 (kq ≤ k) ∧ Drawn0 w w')
 case atStart => exact ⟨(0), (0), (by first | rfl | (simp; done) | (simp [*]; done)), (by first | rfl | (simp; done) | (simp [*]; done)), H', ⟨Nat.le_refl _⟩, by repeat (first | exact Drawn0.refl _ | apply Drawn0.step)⟩
 case round =>
  clear H'
  obtain ⟨x3_1, x8_1, rfl, rfl, HA, HK1, ⟨m1, rfl⟩⟩ := hrel
  cases gk with
  | zero => exact absurd HA.out (by simp [impl_total.l0])
  | succ k1 =>
   have H := HA.out
   clear HA
   simp only [impl_total.l0] at H
   by_cases c2 : x8_1 < (l0.length : Int)
   · rw [if_pos c2] at H
     have c2b0 : decide (x8_1 < (l0.length : Int)) = true := decide_eq_true c2
     clear c2
     by_cases c3 : 0 ≤ x8_1
     · rw [if_pos c3] at H
       have c3b0 : decide (0 ≤ x8_1) = true := decide_eq_true c3
       clear c3
       by_cases c4 : x8_1 < (l0.length : Int)
       · rw [if_pos c4] at H
         have c4b0 : decide (x8_1 < (l0.length : Int)) = true := decide_eq_true c4
         clear c4
         have H' := Aside0.mk H
         clear H
         have p254 : 0 ≤ (x8_1 : Int) := of_decide_eq_true (by first | (with_reducible assumption) | assumption)
         have q254 : x8_1 < (l0.length : Int) := of_decide_eq_true (by first | (with_reducible assumption) | assumption)
         obtain ⟨ad254, e254, hx254_0⟩ := Kd.at_int HR0.out x8_1 p254 q254
         cases e254
         replace p254 := eq_true p254
         replace q254 := eq_true q254
         go_wp2
         go_roundg k1
         case measure => have := HK1.out; omega
         case rel => exact ⟨(wrap64 (x3_1 + (rd l0 x8_1))), (wrap64 (x8_1 + 1)), (by first | rfl | (simp; done) | (simp [*]; done)), (by first | rfl | (simp; done) | (simp [*]; done)), H', ⟨by have := HK1.out; omega⟩, by repeat (first | exact Drawn0.refl _ | apply Drawn0.step)⟩
       · rw [if_neg c4] at H
         exact absurd H (by simp)
     · rw [if_neg c3] at H
       exact absurd H (by simp)
   · rw [if_neg c2] at H
     have c2b0 : decide (x8_1 < (l0.length : Int)) = false := decide_eq_false c2
     clear c2
     obtain rfl := Option.some.inj H
     go_wp2
     go_ret
     exact ⟨by first | rfl | (simp; done) | (simp [*]; done), by repeat (first | exact Drawn0.refl _ | apply Drawn0.step)⟩

end Go.Proofs.Ytdkimdlbjeobiaa.A

-- made by a program of this repo (wip/pp.py) through the kit's printer
namespace Go.Proofs.Ytdkimdlbjeobiaa.A
open Go.RowKit Go.Proofs.YtdkimdlbjeobiaaW.PrintWords Go.Proofs.YtdkimdlbjeobiaaW.PrintLast Go.Proofs.YtdkimdlbjeobiaaW.PrintMore
attribute [local go_sem] max2_int min2_int max_two min_two max_three min_three max_four min_four
set_option linter.unusedVariables false
set_option linter.unusedSimpArgs false

/-! ### impl_doFit: function 50 -/
def impl_doFit.f (k : Nat) (l0 : List Int) (l1 : List Int) : Option (Bool) := if (l0.length : Int) = (l1.length : Int) then ((impl_total.f k l0).bind fun t426 => ((impl_total.f k l1).bind fun t427 => (some (t426 == t427)))) else (some false)
set_option maxHeartbeats 8000000 in
set_option maxRecDepth 100000 in
theorem impl_doFit.calls (k : Nat) (A0 : Option Addr) (c0 : Nat) (l0 : List Int) (A1 : Option Addr) (c1 : Nat) (l1 : List Int) (r : Bool) (w : World) (hr0 : Kd.C (Kd.int .i64) w A0 l0.length l0) (hc0 : l0.length ≤ c0) (hr1 : Kd.C (Kd.int .i64) w A1 l1.length l1) (hc1 : l1.length ≤ c1) (h : impl_doFit.f k l0 l1 = some r) :
 Calls Try.prog 50 #[.slice A0 l0.length c0, .slice A1 l1.length c1] w fun e w' => e = .returned (.bool r) ∧ Drawn0 w w' := by
 have HR0 := Aside0.mk hr0
 have HC0 := Aside0.mk hc0
 clear hr0 hc0
 have HR1 := Aside0.mk hr1
 have HC1 := Aside0.mk hc1
 clear hr1 hc1
 have H : (if (l0.length : Int) = (l1.length : Int) then ((impl_total.f k l0).bind fun t426 => ((impl_total.f k l1).bind fun t427 => (some (t426 == t427)))) else (some false)) = some r := h
 clear h
 by_cases c3 : (l0.length : Int) = (l1.length : Int)
 · rw [if_pos c3] at H
   have c3b0 : ((l0.length : Int) == (l1.length : Int)) = true := beq_iff_eq.mpr c3
   have c3b1 : ((l0.length : Int) != (l1.length : Int)) = false := bne_eq_false_iff_eq.mpr c3
   have c3b2 : (l0.length == l1.length) = true := by first | simpa using c3 | (simp at c3 ⊢; omega)
   clear c3
   replace H := Option.bind_eq_some_iff.mp H
   obtain ⟨t426, A40, H⟩ := H
   replace H : ((impl_total.f k l1).bind fun t427 => (some (t426 == t427))) = some r := H
   have A4 := Aside0.mk A40
   clear A40
   replace H := Option.bind_eq_some_iff.mp H
   obtain ⟨t427, A50, H⟩ := H
   replace H : (some (t426 == t427)) = some r := H
   have A5 := Aside0.mk A50
   clear A50
   obtain rfl := Option.some.inj H
   go_enter Try.func50, Try.ntmps50
   go_wp2_with (first | (go_at_call 39; (with_reducible refine (impl_total.calls k _ _ l0 t426 _ ?side1 ?side2 A4.out).mono ?_); (case side1 => repeat (first | exact HR0.out | (with_reducible refine Kd.C_alloc ?_ _) | (with_reducible refine Kd.C_drewN ?_ _) | (with_reducible refine Kd.C_drew ?_))); (case side2 => exact HC0.out); rintro e w' ⟨rfl, ⟨nd, rfl⟩⟩) | (go_at_call 39; (with_reducible refine (impl_total.calls k _ _ l1 t427 _ ?side1 ?side2 A5.out).mono ?_); (case side1 => repeat (first | exact HR1.out | (with_reducible refine Kd.C_alloc ?_ _) | (with_reducible refine Kd.C_drewN ?_ _) | (with_reducible refine Kd.C_drew ?_))); (case side2 => exact HC1.out); rintro e w' ⟨rfl, ⟨nd, rfl⟩⟩))
   go_ret
   exact ⟨by first | rfl | (simp; done) | (simp [*]; done), by repeat (first | exact Drawn0.refl _ | apply Drawn0.step)⟩
 · rw [if_neg c3] at H
   have c3b0 : ((l0.length : Int) == (l1.length : Int)) = false := beq_eq_false_iff_ne.mpr c3
   have c3b1 : ((l0.length : Int) != (l1.length : Int)) = true := bne_iff_ne.mpr c3
   have c3b2 : (l0.length == l1.length) = false := by first | simpa using c3 | (simp at c3 ⊢; omega)
   obtain rfl := Option.some.inj H
   go_enter Try.func50, Try.ntmps50
   go_wp2
   go_ret
   exact ⟨by first | rfl | (simp; done) | (simp [*]; done), by repeat (first | exact Drawn0.refl _ | apply Drawn0.step)⟩

end Go.Proofs.Ytdkimdlbjeobiaa.A

/- slices.Clone at []int: a copy in memory of the call's own (the shelf's worked proof, turned to this claim). -/
namespace Go.Proofs.Ytdkimdlbjeobiaa.A
open Go.RowKit Go.Proofs.YtdkimdlbjeobiaaW.PrintWords Go.Proofs.YtdkimdlbjeobiaaW.PrintLast Go.Proofs.YtdkimdlbjeobiaaW.PrintMore
attribute [local go_sem] max2_int min2_int max_two min_two max_three min_three max_four min_four
set_option linter.unusedVariables false
set_option linter.unusedSimpArgs false

def slices_Clone_int_int.f (l0 : List Int) : Option (List Int) := if l0.length ≤ 17592186044416 then some l0 else none
set_option maxHeartbeats 2000000 in
set_option maxRecDepth 100000 in
theorem slices_Clone_int_int.calls (A0 : Option Addr) (c0 : Nat) (l0 : List Int) (r : List Int) (w : World) (hr0 : Kd.C (Kd.int .i64) w A0 l0.length l0) (hc0 : l0.length ≤ c0) (h : slices_Clone_int_int.f l0 = some r) :
 Calls Try.prog 80 #[.slice A0 l0.length c0] w fun e w' => ∃ v0_ : Value, e = .returned (v0_) ∧ Kd.R (Kd.int .i64) 3 w' w.heap.size (fun _ => True) v0_ r ∧ Below w.heap.size w w' := by
 have hl : l0.length ≤ 17592186044416 ∧ l0 = r := by
  unfold slices_Clone_int_int.f at h
  by_cases c : l0.length ≤ 17592186044416
  · rw [if_pos c] at h
    exact ⟨c, Option.some.inj h⟩
  · rw [if_neg c] at h
    cases h
 clear h
 obtain ⟨hl, rfl⟩ := hl
 have hn := (Kd.reads_of_C (d := (0 : Int)) (h1 := fun _ => rfl) hr0).2.2
 clear hr0
 have q := fun (w : World) (a : Option Addr) (n c n' c' : Nat) => Lib.run_eql_slice_nil (P := Try.prog) w 22 3 a n c n' c' Try.underlying22
 cases A0 with
 | none =>
  have e0 : l0 = [] := by
   cases l0 with
   | nil => rfl
   | cons x t =>
    obtain ⟨ad, e', _⟩ := hn (by simp)
    cases e'
  subst e0
  clear hn
  go_enter Try.func80, Try.ntmps80
  go_wp2
  go_ret
  exact ⟨_, rfl, Kd.R_nil _ _ _ _ _, Below.refl _ _⟩
 | some ad =>
  have HC : Aside0 (∀ j u, (encs (Value.int .i64) l0)[j]? = some u → w.cell? (ad.add j) = some u) := ⟨by
   intro j u hj
   have hjl : j < l0.length := by
    have := (List.getElem?_eq_some_iff.1 hj).1
    rwa [encs_length] at this
   obtain ⟨ad', e', hcell⟩ := hn (by omega)
   cases e'
   rw [encs_get (d := (0 : Int)) l0 j hjl] at hj
   injection hj with hj
   rw [← hj]
   exact hcell j hjl⟩
  clear hn
  obtain ⟨i0, hi, hzz⟩ := Option.map_eq_some_iff.1 info3
  simp only [Prod.mk.injEq] at hzz
  obtain ⟨hz0, hz1, hz2⟩ := hzz
  have Hl := Aside0.mk hl
  have Hc := Aside0.mk hc0
  clear hl hc0
  go_enter Try.func80, Try.ntmps80
  go_wp2_with (at_builtin; refine wpList_append_own _ rfl _ _ 22 rfl w.heap.size 3 i0 (.int .i64 0) 1 8 Try.underlying22 hi hz0 hz1 hz2 rfl (by decide) _ _ _ rfl (World.ownsRow_made w #[] 0 (Nat.le_refl _) (Nat.zero_le _) (by simp)) ad l0.length c0 (encs (Value.int .i64) l0) rfl ?qc1 ?qc2 ?qc3 ?qc4 ?qc5 ?qc6 ?_)
  case qc1 => rw [encs_length, Nat.mul_one]
  case qc2 =>
   intro j u hj
   exact Lib.cell?_alloc_some _ (HC.out j u hj)
  case qc3 =>
   intro u hu
   obtain ⟨x, _, rfl⟩ := List.mem_map.1 hu
   rfl
  case qc4 =>
   have := Hl.out
   unfold maxLen
   omega
  case qc5 =>
   have := Hl.out
   omega
  case qc6 => simp
  intro v' w1 hown hgrow hnil
  go_wp2
  go_ret
  refine ⟨v', rfl, ?_, ?_⟩
  · refine Kd.R_of_own ?_ (fun _ _ => trivial)
    simpa using hown
  · exact ((Below.refl _ w).alloc (Nat.le_refl _) _).grown hgrow (by simp) (by intro k hk; simp [Value.ownBlock] at hk; omega)
end Go.Proofs.Ytdkimdlbjeobiaa.A

/- What the world behind slices.SortFunc says in the words of rows: numbers and worlds alone, no program. -/
namespace Go.Proofs.Ytdkimdlbjeobiaa.A
open Go.RowKit Go.Proofs.YtdkimdlbjeobiaaW.PrintWords Go.Proofs.YtdkimdlbjeobiaaW.PrintLast Go.Proofs.YtdkimdlbjeobiaaW.PrintMore
attribute [local go_sem] max2_int min2_int max_two min_two max_three min_three max_four min_four
set_option linter.unusedVariables false
set_option linter.unusedSimpArgs false

open Go.Shelf Go.Lib Go.Sort
theorem heap_sorted {α : Type} [Inhabited α] (enc : α → Value) (w : World) (blk off m : Nat) (d : Array α) (os : Array Obj) (k : Nat) (hk : k < w.heap.size) :
 (sortWorld enc w blk off m d os).heap[k]? = if blk = k then (w.heap[k]?).map (onCells (putCells enc off d)) else w.heap[k]? := by
 have h1 : (sortWorld enc w blk off m d os).heap = (w.heap.modify blk (onCells (putCells enc off d))) ++ os := rfl
 rw [h1, Array.getElem?_append_left (by rw [Array.size_modify]; exact hk), Array.getElem?_modify]
theorem size_sorted {α : Type} [Inhabited α] (enc : α → Value) (w : World) (blk off m : Nat) (d : Array α) (os : Array Obj) : w.heap.size ≤ (sortWorld enc w blk off m d os).heap.size := by
 have h1 : (sortWorld enc w blk off m d os).heap = (w.heap.modify blk (onCells (putCells enc off d))) ++ os := rfl
 rw [h1, Array.size_append, Array.size_modify]
 omega
theorem below_sorted {α : Type} [Inhabited α] (enc : α → Value) {w w1 : World} (hb : Below w.heap.size w w1) {blk off m : Nat} (d : Array α) (os : Array Obj) (hg : w.heap.size ≤ blk) : Below w.heap.size w (sortWorld enc w1 blk off m d os) := by
 refine ⟨hb.os, hb.tape, hb.output, Nat.le_trans hb.size (size_sorted _ _ _ _ _ _ _), fun k hk => ?_⟩
 rw [heap_sorted _ _ _ _ _ _ _ _ (Nat.lt_of_lt_of_le hk hb.size), if_neg (by omega)]
 exact hb.block k hk
theorem putCells_take {α : Type} [Inhabited α] (enc : α → Value) (d : Array α) (cur : Array Value) (h : d.size ≤ cur.size) : (putCells enc 0 d cur).toList.take d.size = d.toList.map enc := by
 apply List.ext_getElem?
 intro i
 by_cases hi : i < d.size
 · rw [List.getElem?_take_of_lt hi, List.getElem?_map, Array.getElem?_toList, Array.getElem?_toList, Array.getElem?_eq_getElem hi]
   unfold putCells
   rw [Array.getElem?_mapIdx, Array.getElem?_eq_getElem (show i < cur.size by omega)]
   simp [hi, getElem!_pos]
 · rw [List.getElem?_eq_none (by rw [List.length_take]; omega), List.getElem?_eq_none (by simp; omega)]
theorem own_sorted {α : Type} [Inhabited α] (enc : α → Value) {w1 : World} {base e n g cap m : Nat} {cur : Array Value} (d : Array α) (os : Array Obj) (hb : base ≤ g) (hh : w1.heap[g]? = some (.cells cur e (0, 0))) (hn : n ≤ cap) (hc : cap ≤ maxLen) (hs : cur.size = cap * 1) (hd : d.size = n) :
 (sortWorld enc w1 g 0 m d os).ownsRow base e 1 (.slice (some ⟨g, 0, none⟩) n cap) n (d.toList.map enc) := by
 have hg : g < w1.heap.size := (Array.getElem?_eq_some_iff.1 hh).1
 refine ⟨by simp [hd], .inr ⟨g, cap, putCells enc 0 d cur, rfl, hb, ?_, hn, hc, ?_, ?_⟩⟩
 · rw [heap_sorted _ _ _ _ _ _ _ _ hg, if_pos rfl, hh]
   rfl
 · unfold putCells
   rw [Array.size_mapIdx]
   exact hs
 · rw [Nat.mul_one, ← hd]
   exact putCells_take enc d cur (by omega)
theorem holds_own {α : Type} [Inhabited α] (enc : α → Value) {w1 : World} {e n g cap : Nat} {cur : Array Value} (d : Array α) (hh : w1.heap[g]? = some (.cells cur e (0, 0))) (hn : n ≤ cap) (hs : cur.size = cap * 1) (hd : d.size = n) (ht : cur.toList.take (n * 1) = d.toList.map enc) : Holds enc w1 g 0 d := by
 intro j hj
 have h1 : (cur.toList.take (n * 1))[j]? = (d.toList.map enc)[j]? := by rw [ht]
 rw [List.getElem?_take_of_lt (by omega), List.getElem?_map, Array.getElem?_toList, Array.getElem?_toList, Array.getElem?_eq_getElem hj] at h1
 rw [Nat.zero_add]
 refine ⟨?_, blk_frozen hh j⟩
 rw [blk_cell hh j, h1, getElem!_pos d j hj]
 rfl
end Go.Proofs.Ytdkimdlbjeobiaa.A

/-
  DERIVED: THE SHELF's CONTRACTS AT THIS DUMP, IN PLAIN WORDS (tools/lay-plain.mjs out of 'YtdkimdlbjeobiaaShelf.lean', which tools/lay-shelf.mjs wrote): THE SAME DECLARATIONS UNDER THE SAME NAMES: 'import', 'namespace', 'open', 'def', 'theorem' AND NOTHING ELSE: no command of the shelf's: FOR A HAND-IN. Each laying: the table of numbers ('.._ren') and one theorem, a field a fact of the dump's own or the kernel's comparison; each contract: ONE APPLICATION.
-/
namespace Go.Proofs
open Go.Shelf
def Try.sortL_ren : Go.Shelf.Ren := ⟨fun | 6 => 81 | 15 => 85 | 14 => 84 | 28 => 94 | 29 => 95 | 20 => 86 | 21 => 87 | 22 => 88 | 23 => 89 | 24 => 90 | 25 => 91 | 26 => 92 | 27 => 93 | 46 => 96 | 47 => 97 | 48 => 98 | 49 => 99 | 50 => 100 | 57 => 101 | n => n, fun | 22 => 22 | 24 => 3 | 25 => 55 | 3 => 3 | 39 => 69 | 0 => 0 | 53 => 81 | 55 => 49 | 4 => 4 | 46 => 74 | 45 => 73 | 50 => 78 | 5 => 5 | 9 => 9 | 66 => 83 | 70 => 87 | 76 => 89 | 77 => 41 | n => n, fun | n => n⟩
theorem Try.sortL : Go.Proofs.SlLaysF.n6 Try.prog Try.sortL_ren := {
 mixed := by kernel_rfl
 f6 := ⟨Try.f81.name, by decide, Try.func81.trans (congrArg some (by kernel_rfl))⟩
 f14 := ⟨Try.f84.name, by decide, Try.func84.trans (congrArg some (by kernel_rfl))⟩
 f15 := Try.func85.trans (congrArg some (by kernel_rfl))
 f20 := ⟨Try.f86.name, by decide, Try.func86.trans (congrArg some (by kernel_rfl))⟩
 f21 := ⟨Try.f87.name, by decide, Try.func87.trans (congrArg some (by kernel_rfl))⟩
 f22 := ⟨Try.f88.name, by decide, Try.func88.trans (congrArg some (by kernel_rfl))⟩
 f23 := ⟨Try.f89.name, by decide, Try.func89.trans (congrArg some (by kernel_rfl))⟩
 f24 := ⟨Try.f90.name, by decide, Try.func90.trans (congrArg some (by kernel_rfl))⟩
 f25 := ⟨Try.f91.name, by decide, Try.func91.trans (congrArg some (by kernel_rfl))⟩
 f26 := ⟨Try.f92.name, by decide, Try.func92.trans (congrArg some (by kernel_rfl))⟩
 f27 := ⟨Try.f93.name, by decide, Try.func93.trans (congrArg some (by kernel_rfl))⟩
 f28 := Try.func94.trans (congrArg some (by kernel_rfl))
 f29 := Try.func95.trans (congrArg some (by kernel_rfl))
 f46 := ⟨Try.f96.name, by decide, Try.func96.trans (congrArg some (by kernel_rfl))⟩
 f47 := Try.func97.trans (congrArg some (by kernel_rfl))
 f48 := Try.func98.trans (congrArg some (by kernel_rfl))
 f49 := ⟨Try.f99.name, by decide, Try.func99.trans (congrArg some (by kernel_rfl))⟩
 f50 := ⟨Try.f100.name, by decide, Try.func100.trans (congrArg some (by kernel_rfl))⟩
 f57 := ⟨Try.f101.name, by decide, Try.func101.trans (congrArg some (by kernel_rfl))⟩
 t0 := Try.underlying0
 a0 := Try.isAgg0
 z0 := Try.sizeOf0
 v0 := Try.zeroValue0
 t3 := Try.underlying3
 a3 := Try.isAgg3
 z3 := Try.sizeOf3
 v3 := Try.zeroValue3
 t4 := Try.underlying4
 a4 := Try.isAgg4
 z4 := Try.sizeOf4
 v4 := Try.zeroValue4
 t5 := Try.underlying5
 a5 := Try.isAgg5
 z5 := Try.sizeOf5
 v5 := Try.zeroValue5
 t9 := Try.underlying9
 a9 := Try.isAgg9
 z9 := Try.sizeOf9
 v9 := Try.zeroValue9
 t22 := Try.underlying22
 a22 := Try.isAgg22
 z22 := Try.sizeOf22
 v22 := Try.zeroValue22
 a24 := Try.isAgg3
 z24 := Try.sizeOf3
 t25 := Try.underlying55
 a25 := Try.isAgg55
 z25 := Try.sizeOf55
 v25 := Try.zeroValue55
 t39 := Try.underlying69
 a39 := Try.isAgg69
 z39 := Try.sizeOf69
 v39 := Try.zeroValue69
 t45 := Try.underlying73
 a45 := Try.isAgg73
 z45 := Try.sizeOf73
 v45 := Try.zeroValue73
 t46 := Try.underlying74
 a46 := Try.isAgg74
 z46 := Try.sizeOf74
 v46 := Try.zeroValue74
 t50 := Try.underlying78
 a50 := Try.isAgg78
 z50 := Try.sizeOf78
 v50 := Try.zeroValue78
 t53 := Try.underlying81
 a53 := Try.isAgg81
 z53 := Try.sizeOf81
 v53 := Try.zeroValue81
 t55 := Try.underlying49
 a55 := Try.isAgg49
 z55 := Try.sizeOf49
 v55 := Try.zeroValue49
 t66 := Try.underlying83
 a66 := Try.isAgg83
 z66 := Try.sizeOf83
 v66 := Try.zeroValue83
 t70 := Try.underlying87
 a70 := Try.isAgg87
 z70 := Try.sizeOf87
 v70 := Try.zeroValue87
 t76 := Try.underlying89
 a76 := Try.isAgg89
 z76 := Try.sizeOf89
 v76 := Try.zeroValue89
 t77 := Try.underlying41
 a77 := Try.isAgg41
 z77 := Try.sizeOf41
 v77 := Try.zeroValue41 }
end Go.Proofs

/- ranking: the numbers of a list, the greatest ones first: slices.Clone and slices.SortFunc by their contracts. -/
namespace Go.Proofs.Ytdkimdlbjeobiaa.A
open Go.RowKit Go.Proofs.YtdkimdlbjeobiaaW.PrintWords Go.Proofs.YtdkimdlbjeobiaaW.PrintLast Go.Proofs.YtdkimdlbjeobiaaW.PrintMore
attribute [local go_sem] max2_int min2_int max_two min_two max_three min_three max_four min_four
set_option linter.unusedVariables false
set_option linter.unusedSimpArgs false

open Go.Shelf Go.Lib Go.Sort
def descL (l : List Int) : List Int := l.mergeSort fun x y => decide (y ≤ x)
def smallL (l : List Int) : Bool := decide (l.length ≤ 1000000) && l.all fun x => decide (0 ≤ x ∧ x ≤ 1000000)
def impl_ranking.f (l0 : List Int) : Option (List Int) := if smallL l0 = true then some (descL l0) else none
abbrev SmallI : Type := { x : Int // 0 ≤ x ∧ x ≤ 1000000 }
instance : Inhabited SmallI := ⟨⟨0, by omega, by omega⟩⟩
def encI (x : SmallI) : Value := .int .i64 x.1
def cfI (x y : SmallI) : Int := y.1 - x.1
theorem ltI (x y : SmallI) : ltOf cfI x y = decide (y.1 < x.1) := by
 unfold ltOf cfI
 by_cases h : y.1 < x.1
 · simp [h]
   omega
 · simp [h]
   omega
theorem swoI : SWO (ltOf cfI) where
 irrefl x := by rw [ltI]; simp
 trans x y z h1 h2 := by rw [ltI] at *; simp at *; omega
 ntrans x y z h1 h2 := by rw [ltI] at *; simp at *; omega
theorem totI (x y : SmallI) (h1 : ltOf cfI x y = false) (h2 : ltOf cfI y x = false) : x = y := by
 rw [ltI] at *
 simp at *
 exact Subtype.ext (by omega)
theorem geI : (fun x y : SmallI => !ltOf cfI y x) = fun x y => decide (y.1 ≤ x.1) := by
 funext x y
 rw [ltI]
 by_cases h : y.1 ≤ x.1
 · have h' : ¬ x.1 < y.1 := by omega
   simp [h, h']
 · have h' : x.1 < y.1 := by omega
   simp [h, h']
set_option maxHeartbeats 1000000 in
theorem ranking_cmp (x y : SmallI) (W : World) : Calls Try.prog 82 #[encI x, encI y] W fun e w' => e = .returned (.int .i64 (cfI x y)) ∧ ∃ q, w' = W.drewN q := by
 obtain ⟨x, hx0, hx1⟩ := x
 obtain ⟨y, hy0, hy1⟩ := y
 unfold encI cfI
 go_enter Try.func82, Try.ntmps82
 go_wp2
 go_ret
 exact ⟨rfl, 0, rfl⟩
theorem attach_enc (l : List Int) (h : ∀ x ∈ l, 0 ≤ x ∧ x ≤ 1000000) : (l.attachWith (fun x => 0 ≤ x ∧ x ≤ 1000000) h).map encI = encs (Value.int .i64) l := by
 unfold encs
 rw [show encI = (Value.int .i64) ∘ Subtype.val from rfl, ← List.map_map, List.attachWith_map_subtype_val]
theorem descL_attach (l : List Int) (h : ∀ x ∈ l, 0 ≤ x ∧ x ≤ 1000000) : ((l.attachWith (fun x => 0 ≤ x ∧ x ≤ 1000000) h).mergeSort fun x y => decide (y.1 ≤ x.1)).map encI = encs (Value.int .i64) (descL l) := by
 have h1 : ((l.attachWith (fun x => 0 ≤ x ∧ x ≤ 1000000) h).mergeSort fun x y => decide (y.1 ≤ x.1)).map Subtype.val = descL l := by
  unfold descL
  rw [List.map_mergeSort (s := fun x y => decide (y ≤ x)) (fun a _ b _ => rfl), List.attachWith_map_subtype_val]
 unfold encs
 rw [← h1, List.map_map]
 rfl
set_option maxHeartbeats 2000000 in
set_option maxRecDepth 100000 in
theorem impl_ranking.calls (A0 : Option Addr) (c0 : Nat) (l0 : List Int) (r : List Int) (w : World) (hr0 : Kd.C (Kd.int .i64) w A0 l0.length l0) (hc0 : l0.length ≤ c0) (h : impl_ranking.f l0 = some r) :
 Calls Try.prog 59 #[.slice A0 l0.length c0] w fun e w' => ∃ v0_ : Value, e = .returned (v0_) ∧ Kd.R (Kd.int .i64) 3 w' w.heap.size (fun _ => True) v0_ r ∧ Below w.heap.size w w' := by
 have hl : smallL l0 = true ∧ descL l0 = r := by
  unfold impl_ranking.f at h
  by_cases c : smallL l0 = true
  · rw [if_pos c] at h
    exact ⟨c, Option.some.inj h⟩
  · rw [if_neg c] at h
    cases h
 clear h
 obtain ⟨hs, rfl⟩ := hl
 unfold smallL at hs
 simp only [Bool.and_eq_true, decide_eq_true_eq, List.all_eq_true] at hs
 obtain ⟨hl, hall⟩ := hs
 have HCl := Aside0.mk (slices_Clone_int_int.calls A0 c0 l0 l0 w hr0 hc0 (by unfold slices_Clone_int_int.f; rw [if_pos (by omega)]))
 have Hall := Aside0.mk hall
 have Hl := Aside0.mk hl
 clear hall hl hr0 hc0
 have eg : ∀ args w, (callFunc 82 args).run Try.prog w = .ok (.enter 82 args) w := enters_of Try.func82 (by kernel_rfl) rfl
 have Heg := Aside0.mk eg
 clear eg
 go_enter Try.func59, Try.ntmps59
 go_wp2_with fail
 refine HCl.out.mono ?_
 rintro e w1 ⟨v, rfl, hR, hb⟩
 have ho := Kd.own_of_R hR
 clear hR HCl
 have Hb := Aside0.mk hb
 clear hb
 obtain ⟨hlen', hcase⟩ := ho
 rcases hcase with ⟨rfl, h0⟩ | ⟨g, cap, cur, rfl, hg, hh, hnc, hcm, hcs, htake⟩
 · have hnil : l0 = [] := List.length_eq_zero_iff.1 h0
   subst hnil
   clear h0 hlen' Hall Hl
   have hS := AnyF.slices_SortFunc_none (P := Try.prog) (ρ := Try.sortL_ren) { Try.sortL with } none 0 (.func (.func 82) #[] #[]) w1
   change Calls Try.prog 81 _ _ _ at hS
   have HS := Aside0.mk hS
   clear hS
   go_wp2_with fail
   refine HS.out.mono ?_
   rintro e w2 ⟨rfl, rfl⟩
   go_wp2
   go_ret
   exact ⟨_, rfl, by unfold descL; simp only [List.mergeSort]; exact Kd.R_nil _ _ _ _ _, Hb.out⟩
 · have hd : (l0.attachWith (fun x => 0 ≤ x ∧ x ≤ 1000000) Hall.out).toArray.size = l0.length := by simp
   have hH := holds_own encI (l0.attachWith (fun x => 0 ≤ x ∧ x ≤ 1000000) Hall.out).toArray hh hnc hcs hd (by
    rw [htake, List.toList_toArray, attach_enc])
   have hS := Any.slices_SortFunc_total Try.sortL encI (fun _ => rfl) cfI swoI 82 #[] g 0 cap (l0.attachWith (fun x => 0 ≤ x ∧ x ≤ 1000000) Hall.out).toArray w1 Heg.out
    (CmpReads.lays (fun _ _ _ _ x y => ranking_cmp x y _)) hH (Array.getElem?_eq_some_iff.1 hh).1 (by have := Hl.out; rw [hd]; omega) totI
   rw [geI, hd] at hS
   change Calls Try.prog 81 _ _ _ at hS
   have HS := Aside0.mk hS
   have HF : Aside0 (∀ m os, Kd.R (Kd.int .i64) 3 (sortWorld encI w1 g 0 m ((l0.attachWith (fun x => 0 ≤ x ∧ x ≤ 1000000) Hall.out).mergeSort fun x y => decide (y.1 ≤ x.1)).toArray os) w.heap.size (fun _ => True) (.slice (some ⟨g, 0, none⟩) l0.length cap) (descL l0) ∧ Below w.heap.size w (sortWorld encI w1 g 0 m ((l0.attachWith (fun x => 0 ≤ x ∧ x ≤ 1000000) Hall.out).mergeSort fun x y => decide (y.1 ≤ x.1)).toArray os)) := ⟨fun m os => by
    refine ⟨?_, below_sorted encI Hb.out _ os hg⟩
    have hdl : (descL l0).length = l0.length := List.length_mergeSort l0
    have ho := own_sorted encI (m := m) ((l0.attachWith (fun x => 0 ≤ x ∧ x ≤ 1000000) Hall.out).mergeSort fun x y => decide (y.1 ≤ x.1)).toArray os hg hh hnc hcm hcs (by simp [List.length_mergeSort])
    rw [List.toList_toArray, descL_attach] at ho
    exact Kd.R_of_own (by rw [hdl]; exact ho) (fun _ _ => trivial)⟩
   clear hS hH hd hh hnc hcm hcs htake hlen' hg
   go_wp2_with fail
   refine HS.out.mono ?_
   rintro e w2 ⟨rfl, n, os, rfl⟩
   have hF := HF.out n os
   have HF2 := Aside0.mk hF
   clear hF
   generalize sortWorld encI w1 g 0 n ((l0.attachWith (fun x => 0 ≤ x ∧ x ≤ 1000000) Hall.out).mergeSort fun x y => decide (y.1 ≤ x.1)).toArray os = w2 at HF2 ⊢
   go_wp2
   go_ret
   exact ⟨_, rfl, HF2.out.1, HF2.out.2⟩
end Go.Proofs.Ytdkimdlbjeobiaa.A

-- made by a program of this repo (wip/pp.py) through the kit's printer
namespace Go.Proofs.Ytdkimdlbjeobiaa.A
open Go.RowKit Go.Proofs.YtdkimdlbjeobiaaW.PrintWords Go.Proofs.YtdkimdlbjeobiaaW.PrintLast Go.Proofs.YtdkimdlbjeobiaaW.PrintMore
attribute [local go_sem] max2_int min2_int max_two min_two max_three min_three max_four min_four
set_option linter.unusedVariables false
set_option linter.unusedSimpArgs false

/-! ### impl_partial: function 78 -/
def impl_partial.l0 : Nat → List Int → Int → List Int → Int → Int → Option (List Int)
 | 0, _, _, _, _, _ => none
 | k + 1, x3, x4, x9, x10, x11 => if x11 < x10 then (if 0 ≤ x11 then (if x11 < (x9.length : Int) then (if x3.length < 17592186044416 then (impl_partial.l0 k (x3 ++ [wrap64 (x4 + (rd x9 x11))]) (wrap64 (x4 + (rd x9 x11))) x9 x10 (wrap64 (x11 + 1))) else (none)) else (none)) else (none)) else (some x3)
def impl_partial.f (k : Nat) (l0 : List Int) : Option (List Int) := (impl_ranking.f l0).bind fun t441 => (impl_partial.l0 k (([] : List Int)) 0 t441 (t441.length : Int) 0)
set_option maxHeartbeats 8000000 in
set_option maxRecDepth 100000 in
theorem impl_partial.calls (k : Nat) (A0 : Option Addr) (c0 : Nat) (l0 : List Int) (r : List Int) (w : World) (hr0 : Kd.C (Kd.int .i64) w A0 l0.length l0) (hc0 : l0.length ≤ c0) (h : impl_partial.f k l0 = some r) :
 Calls Try.prog 78 #[.slice A0 l0.length c0] w fun e w' => ∃ v0_ : Value, e = .returned (v0_) ∧ Kd.R (Kd.int .i64) 3 w' w.heap.size (fun _ => True) v0_ r ∧ Below w.heap.size w w' := by
 have HR0 := Aside0.mk hr0
 have HC0 := Aside0.mk hc0
 clear hr0 hc0
 have HB := Aside0.mk (Below.refl w.heap.size w)
 have H : ((impl_ranking.f l0).bind fun t441 => (impl_partial.l0 k (([] : List Int)) 0 t441 (t441.length : Int) 0)) = some r := h
 clear h
 obtain ⟨y438, hy438⟩ : ∃ y_ : List Int, y_ = (([] : List Int)) := ⟨_, rfl⟩
 replace H : ((impl_ranking.f l0).bind fun t441 => (impl_partial.l0 k y438 0 t441 (t441.length : Int) 0)) = some r := by first | (rw [hy438]; with_reducible exact H) | (have H2_ := (Option.bind_some _ _).symm.trans H; rw [hy438]; with_reducible exact H2_) | (have H2_ := (Option.bind_some _ _).symm.trans H; with_reducible exact H2_) | with_reducible exact H | (rw [hy438]; exact H) | exact H
 have Ny438 := Aside0.mk hy438
 clear hy438
 replace H := Option.bind_eq_some_iff.mp H
 obtain ⟨t441, A20, H⟩ := H
 replace H : (impl_partial.l0 k y438 0 t441 (t441.length : Int) 0) = some r := H
 have A2 := Aside0.mk A20
 clear A20
 have H' := Aside0.mk H
 clear H
 go_enter Try.func78, Try.ntmps78
 go_wp2_with (first | ((with_reducible refine gate_dst (N := 7) rfl ?_); refine Kd.R_lit (Kd.int .i64) _ 3 ?hg (N := 7) ?hd (xs := ([] : List Int)) (inner := []) (ok := fun _ => True) (okp := fun _ => True) ?hr ?hp (fun _ hk => hk) trivial (Below.refl _ _) (Nat.le_refl _) (by simp) ?_; (case hd => rfl); (case hg => rfl); (case hr => first | (go_simp; done) | (go_simp; rfl)); (case hp => exact (Reps.none _ _)); intro v439 w3 ho4 hb hg_ hnew_; clear hg_ hnew_; (first | rw [← Ny438.out] at ho4 | (simp only [Int.reduceToNat] at ho4; rw [← Ny438.out] at ho4)); have n0_ := Aside0.mk (Kd.R_lower ho4 (below_size (by repeat (first | (with_reducible first | exact HB.out | apply below_alloc | apply pw_below_drewN | apply below_drew1) | exact HB.out)))); have n1_ := Aside0.mk (below_step (by repeat (first | (with_reducible first | exact HB.out | apply below_alloc | apply pw_below_drewN | apply below_drew1) | exact HB.out)) hb); clear HB; have HO440 := n0_; have HB := n1_; clear n0_ n1_; clear hb ho4) | ((with_reducible refine gate_callee (f := 59) rfl ?_); refine goesL_ (some 9) rfl rfl Try.func59 (by kernel_rfl) rfl #[.slice A0 l0.length c0] rfl (by (try simp only [List.map_toArray, List.map_cons, List.map_nil]); first | done | rfl | (simp only [List.length_drop, List.length_take]; rfl)) ?_; (with_reducible refine (impl_ranking.calls _ _ l0 t441 _ ?side1 ?side2 A2.out).mono ?_); (case side1 => repeat (first | exact (Kd.C_below HR0.out HB.out) | (with_reducible refine Kd.C_alloc ?_ _) | (with_reducible refine Kd.C_drewN ?_ _) | (with_reducible refine Kd.C_drew ?_))); (case side2 => exact HC0.out); rintro e w5 ⟨v442, rfl, ho0, hb⟩; refine ⟨_, rfl, ?_⟩; have n0_ := Aside0.mk (Kd.R_elder' (by (with_reducible repeat (first | apply Kd.R_alloc | apply Kd.R_drewN | apply Kd.R_drew)); exact HO440.out) (Kd.R_base ho0) hb); have n1_ := Aside0.mk (Kd.R_lower (Kd.R_new' ho0 (Kd.R_lt (by (with_reducible repeat (first | apply Kd.R_alloc | apply Kd.R_drewN | apply Kd.R_drew)); exact HO440.out))) (below_size (by repeat (first | (with_reducible first | exact HB.out | apply below_alloc | apply pw_below_drewN | apply below_drew1) | exact HB.out)))); have n2_ := Aside0.mk (below_step (by repeat (first | (with_reducible first | exact HB.out | apply below_alloc | apply pw_below_drewN | apply below_drew1) | exact HB.out)) hb); clear HO440; clear HB; have HO440 := n0_; have HO443 := n1_; have HB := n2_; clear n0_ n1_ n2_; (try clear hb); (try clear hb2); (try clear hk); (try clear hi); (try clear ho0); obtain ⟨Ao6, co6, eo6⟩ := Kd.R_slice HO443.out; subst eo6))
 go_loopg [3, 4, 11] k (fun kq v3 v4 v11 w' => ∃ (x3_1 : List Int) (x4_1 : Int) (x11_1 : Int), v4 = .int .i64 x4_1 ∧ v11 = .int .i64 x11_1 ∧ Aside0 (impl_partial.l0 kq x3_1 x4_1 t441 (t441.length : Int) x11_1 = some r) ∧ Aside0 (kq ≤ k) ∧ Aside0 (Kd.R (Kd.int .i64) 3 w' w.heap.size (fun k_ => some k_ ≠ ((.slice Ao6 t441.length co6) : Value).ownBlock) v3 x3_1) ∧ Aside0 (Kd.R (Kd.int .i64) 3 w' w.heap.size (fun k_ => some k_ ≠ (v3 : Value).ownBlock) (.slice Ao6 t441.length co6) t441) ∧ Aside0 (Below w.heap.size w w'))
 case atStart => exact ⟨(y438), (0), (0), (by first | rfl | (simp; done) | (simp [*]; done)), (by first | rfl | (simp; done) | (simp [*]; done)), H', ⟨Nat.le_refl _⟩, ⟨by (with_reducible repeat (first | apply Kd.R_alloc | apply Kd.R_drewN | apply Kd.R_drew)); exact Kd.R_mono HO440.out (fun _ hk => hk.2)⟩, ⟨by (with_reducible repeat (first | apply Kd.R_alloc | apply Kd.R_drewN | apply Kd.R_drew)); exact Kd.R_mono HO443.out (fun _ hk => hk.2)⟩, ⟨by repeat (first | (with_reducible first | exact HB.out | apply below_alloc | apply pw_below_drewN | apply below_drew1) | exact HB.out)⟩⟩
 case round =>
  clear H'
  try clear p2
  try clear c5
  obtain ⟨x3_1, x4_1, x11_1, rfl, rfl, HA, HK1, HO_3, HO_9, HB⟩ := hrel
  cases gk with
  | zero => exact absurd HA.out (by simp [impl_partial.l0])
  | succ k1 =>
   have H := HA.out
   clear HA
   simp only [impl_partial.l0] at H
   by_cases c7 : x11_1 < (t441.length : Int)
   · rw [if_pos c7] at H
     have c7b0 : decide (x11_1 < (t441.length : Int)) = true := decide_eq_true c7
     clear c7
     by_cases c8 : 0 ≤ x11_1
     · rw [if_pos c8] at H
       have c8b0 : decide (0 ≤ x11_1) = true := decide_eq_true c8
       clear c8
       by_cases c9 : x11_1 < (t441.length : Int)
       · rw [if_pos c9] at H
         have c9b0 : decide (x11_1 < (t441.length : Int)) = true := decide_eq_true c9
         clear c9
         by_cases c10 : x3_1.length < 17592186044416
         · rw [if_pos c10] at H
           have LMc10 := Aside0.mk c10
           clear c10
           obtain ⟨y445, hy445⟩ : ∃ y_ : List Int, y_ = (x3_1 ++ [wrap64 (x4_1 + (rd t441 x11_1))]) := ⟨_, rfl⟩
           replace H : (impl_partial.l0 k1 y445 (wrap64 (x4_1 + (rd t441 x11_1))) t441 (t441.length : Int) (wrap64 (x11_1 + 1))) = some r := by first | (rw [hy445]; with_reducible exact H) | (have H2_ := (Option.bind_some _ _).symm.trans H; rw [hy445]; with_reducible exact H2_) | (have H2_ := (Option.bind_some _ _).symm.trans H; with_reducible exact H2_) | with_reducible exact H | (rw [hy445]; exact H) | exact H
           have Ny445 := Aside0.mk hy445
           clear hy445
           have H' := Aside0.mk H
           clear H
           have p444 : 0 ≤ (x11_1 : Int) := of_decide_eq_true (by first | (with_reducible assumption) | assumption)
           have q444 : x11_1 < (t441.length : Int) := of_decide_eq_true (by first | (with_reducible assumption) | assumption)
           obtain ⟨ad444, e444, hx444_0⟩ := Kd.at_int (Kd.R_reads' HO_9.out).2.2 x11_1 p444 q444
           cases e444
           replace p444 := eq_true p444
           replace q444 := eq_true q444
           go_wp2_with (first | ((with_reducible refine gate_builtin (b := .append) (xs := #[.tmp 18, .tmp 20]) rfl ?_); at_builtin; refine Kd.R_append (Kd.int .i64) (w0 := w) w.heap.size rfl (.tmp 18) (.tmp 20) 22 3 (.int .i64 0) 8 rfl Try.underlying22 info3 rfl (by decide) (by omega) u3 x3_1 (wrap64 (x4_1 + (rd t441 x11_1))) [.int .i64 (wrap64 (x4_1 + (rd t441 x11_1)))] (fun k_ => some k_ ≠ (.slice (some ad444) t441.length co6 : Value).ownBlock) (fun _ => False) rfl rfl ?aP (fun _ hk => hk.elim) ?aF ?aO ?aB ?aS ?aL ?_; (case aP => exact rfl); (case aB => exact (by repeat (first | (with_reducible first | exact HB.out | apply below_alloc | apply pw_below_drewN | apply below_drew1) | exact HB.out))); (case aF => exact (fun k_ hk => Kd.fresh' (Kd.R_lt (by (with_reducible repeat (first | apply Kd.R_alloc | apply Kd.R_drewN | apply Kd.R_drew)); exact HO_9.out)) k_ hk)); (case aO => exact (by (with_reducible repeat (first | apply Kd.R_alloc | apply Kd.R_drewN | apply Kd.R_drew)); exact HO_3.out)); (case aS => exact (below_size (by repeat (first | (with_reducible first | exact HB.out | apply below_alloc | apply pw_below_drewN | apply below_drew1) | exact HB.out)))); (case aL => have := LMc10.out; omega); intro v446 w11 ho hb hg hat; rw [← Ny445.out] at ho; have n0_ := Aside0.mk (Kd.R_after (ok := (fun _ => True)) (by (with_reducible repeat (first | apply Kd.R_alloc | apply Kd.R_drewN | apply Kd.R_drew)); exact Kd.R_mono HO_9.out (fun _ hk => ⟨trivial, hk⟩)) hg hat); have n1_ := Aside0.mk (hb); have n2_ := Aside0.mk (ho); clear HO_9; clear HB; clear HO_3; have HO_9 := n0_; have HB := n1_; have HO447 := n2_; clear n0_ n1_ n2_; clear ho hb hg hat))
           go_roundg k1
           case measure => have := HK1.out; omega
           case rel => exact ⟨(y445), (wrap64 (x4_1 + (rd t441 x11_1))), (wrap64 (x11_1 + 1)), (by first | rfl | (simp; done) | (simp [*]; done)), (by first | rfl | (simp; done) | (simp [*]; done)), H', ⟨by have := HK1.out; omega⟩, ⟨by (with_reducible repeat (first | apply Kd.R_alloc | apply Kd.R_drewN | apply Kd.R_drew)); exact HO447.out⟩, ⟨by (with_reducible repeat (first | apply Kd.R_alloc | apply Kd.R_drewN | apply Kd.R_drew)); exact Kd.R_mono HO_9.out (fun _ hk => hk.2)⟩, ⟨by repeat (first | (with_reducible first | exact HB.out | apply below_alloc | apply pw_below_drewN | apply below_drew1) | exact HB.out)⟩⟩
         · rw [if_neg c10] at H
           exact absurd H (by simp)
       · rw [if_neg c9] at H
         exact absurd H (by simp)
     · rw [if_neg c8] at H
       exact absurd H (by simp)
   · rw [if_neg c7] at H
     have c7b0 : decide (x11_1 < (t441.length : Int)) = false := decide_eq_false c7
     clear c7
     obtain rfl := Option.some.inj H
     go_wp2
     go_ret
     exact ⟨_, by first | rfl | (simp [errW_none, errW_some] <;> rfl) | (simp [*, errW_none, errW_some] <;> rfl), by (with_reducible repeat (first | apply Kd.R_alloc | apply Kd.R_drewN | apply Kd.R_drew)); exact Kd.R_mono HO_3.out (fun _ hk => trivial), by repeat (first | (with_reducible first | exact HB.out | apply below_alloc | apply pw_below_drewN | apply below_drew1) | exact HB.out)⟩

end Go.Proofs.Ytdkimdlbjeobiaa.A

-- made by a program of this repo (wip/pp.py) through the kit's printer
namespace Go.Proofs.Ytdkimdlbjeobiaa.A
open Go.RowKit Go.Proofs.YtdkimdlbjeobiaaW.PrintWords Go.Proofs.YtdkimdlbjeobiaaW.PrintLast Go.Proofs.YtdkimdlbjeobiaaW.PrintMore
attribute [local go_sem] max2_int min2_int max_two min_two max_three min_three max_four min_four
set_option linter.unusedVariables false
set_option linter.unusedSimpArgs false

/-! ### impl_refused: function 76 -/
def impl_refused.l0 : Nat → List Int → List Int → Int → Int → Option (Int)
 | 0, _, _, _, _ => none
 | k + 1, x5, x11, x12, x13 => if x13 < x12 then (if 0 ≤ x13 then (if x13 < (x11.length : Int) then (if x13 < (x5.length : Int) then (if (rd x11 x13) > (rd x5 x13) then (some (wrap64 (x13 + 1))) else (impl_refused.l0 k x5 x11 x12 (wrap64 (x13 + 1)))) else (none)) else (none)) else (none)) else (some 0)
def impl_refused.f (k : Nat) (l0 : List Int) (l1 : List Int) : Option (Int) := (impl_partial.f k l1).bind fun t547 => ((impl_partial.f k l0).bind fun t550 => (impl_refused.l0 k t547 t550 (t550.length : Int) 0))
set_option maxHeartbeats 8000000 in
set_option maxRecDepth 100000 in
theorem impl_refused.calls (k : Nat) (A0 : Option Addr) (c0 : Nat) (l0 : List Int) (A1 : Option Addr) (c1 : Nat) (l1 : List Int) (r : Int) (w : World) (hr0 : Kd.C (Kd.int .i64) w A0 l0.length l0) (hc0 : l0.length ≤ c0) (hr1 : Kd.C (Kd.int .i64) w A1 l1.length l1) (hc1 : l1.length ≤ c1) (h : impl_refused.f k l0 l1 = some r) :
 Calls Try.prog 76 #[.slice A0 l0.length c0, .slice A1 l1.length c1] w fun e w' => e = .returned (.int .i64 r) ∧ Below w.heap.size w w' := by
 have HR0 := Aside0.mk hr0
 have HC0 := Aside0.mk hc0
 clear hr0 hc0
 have HR1 := Aside0.mk hr1
 have HC1 := Aside0.mk hc1
 clear hr1 hc1
 have HB := Aside0.mk (Below.refl w.heap.size w)
 have H : ((impl_partial.f k l1).bind fun t547 => ((impl_partial.f k l0).bind fun t550 => (impl_refused.l0 k t547 t550 (t550.length : Int) 0))) = some r := h
 clear h
 replace H := Option.bind_eq_some_iff.mp H
 obtain ⟨t547, A30, H⟩ := H
 replace H : ((impl_partial.f k l0).bind fun t550 => (impl_refused.l0 k t547 t550 (t550.length : Int) 0)) = some r := H
 have A3 := Aside0.mk A30
 clear A30
 replace H := Option.bind_eq_some_iff.mp H
 obtain ⟨t550, A40, H⟩ := H
 replace H : (impl_refused.l0 k t547 t550 (t550.length : Int) 0) = some r := H
 have A4 := Aside0.mk A40
 clear A40
 have H' := Aside0.mk H
 clear H
 go_enter Try.func76, Try.ntmps76
 go_wp2_with (first | ((with_reducible refine gate_callee (f := 78) rfl ?_); refine goesL_ (some 9) rfl rfl Try.func78 (by kernel_rfl) rfl #[.slice A1 l1.length c1] rfl (by (try simp only [List.map_toArray, List.map_cons, List.map_nil]); first | done | rfl | (simp only [List.length_drop, List.length_take]; rfl)) ?_; (with_reducible refine (impl_partial.calls k _ _ l1 t547 _ ?side1 ?side2 A3.out).mono ?_); (case side1 => repeat (first | exact HR1.out | (with_reducible refine Kd.C_alloc ?_ _) | (with_reducible refine Kd.C_drewN ?_ _) | (with_reducible refine Kd.C_drew ?_))); (case side2 => exact HC1.out); rintro e w5 ⟨v548, rfl, ho0, hb⟩; refine ⟨_, rfl, ?_⟩; have n0_ := Aside0.mk (Kd.R_lower ho0 (below_size (by repeat (first | (with_reducible first | exact HB.out | apply below_alloc | apply pw_below_drewN | apply below_drew1) | exact HB.out)))); have n1_ := Aside0.mk (below_step (by repeat (first | (with_reducible first | exact HB.out | apply below_alloc | apply pw_below_drewN | apply below_drew1) | exact HB.out)) hb); clear HB; have HO549 := n0_; have HB := n1_; clear n0_ n1_; (try clear hb); (try clear hb2); (try clear hk); (try clear hi); (try clear ho0)) | ((with_reducible refine gate_callee (f := 78) rfl ?_); refine goesL_ (some 11) rfl rfl Try.func78 (by kernel_rfl) rfl #[.slice A0 l0.length c0] rfl (by (try simp only [List.map_toArray, List.map_cons, List.map_nil]); first | done | rfl | (simp only [List.length_drop, List.length_take]; rfl)) ?_; (with_reducible refine (impl_partial.calls k _ _ l0 t550 _ ?side1 ?side2 A4.out).mono ?_); (case side1 => repeat (first | exact (Kd.C_below HR0.out HB.out) | (with_reducible refine Kd.C_alloc ?_ _) | (with_reducible refine Kd.C_drewN ?_ _) | (with_reducible refine Kd.C_drew ?_))); (case side2 => exact HC0.out); rintro e w6 ⟨v551, rfl, ho0, hb⟩; refine ⟨_, rfl, ?_⟩; have n0_ := Aside0.mk (Kd.R_elder' (by (with_reducible repeat (first | apply Kd.R_alloc | apply Kd.R_drewN | apply Kd.R_drew)); exact HO549.out) (Kd.R_base ho0) hb); have n1_ := Aside0.mk (Kd.R_lower (Kd.R_new' ho0 (Kd.R_lt (by (with_reducible repeat (first | apply Kd.R_alloc | apply Kd.R_drewN | apply Kd.R_drew)); exact HO549.out))) (below_size (by repeat (first | (with_reducible first | exact HB.out | apply below_alloc | apply pw_below_drewN | apply below_drew1) | exact HB.out)))); have n2_ := Aside0.mk (below_step (by repeat (first | (with_reducible first | exact HB.out | apply below_alloc | apply pw_below_drewN | apply below_drew1) | exact HB.out)) hb); clear HO549; clear HB; have HO549 := n0_; have HO552 := n1_; have HB := n2_; clear n0_ n1_ n2_; (try clear hb); (try clear hb2); (try clear hk); (try clear hi); (try clear ho0); obtain ⟨Ao7, co7, eo7⟩ := Kd.R_slice HO552.out; subst eo7))
 go_loopg [13] k (fun kq v13 w' => ∃ (x13_1 : Int), v13 = .int .i64 x13_1 ∧ Aside0 (impl_refused.l0 kq t547 t550 (t550.length : Int) x13_1 = some r) ∧ Aside0 (kq ≤ k) ∧ Aside0 (Kd.R (Kd.int .i64) 3 w' w.heap.size (fun k_ => some k_ ≠ ((.slice Ao7 t550.length co7) : Value).ownBlock) v548 t547) ∧ Aside0 (Kd.R (Kd.int .i64) 3 w' w.heap.size (fun k_ => some k_ ≠ (v548 : Value).ownBlock) (.slice Ao7 t550.length co7) t550) ∧ Aside0 (Below w.heap.size w w'))
 case atStart => exact ⟨(0), (by first | rfl | (simp; done) | (simp [*]; done)), H', ⟨Nat.le_refl _⟩, ⟨by (with_reducible repeat (first | apply Kd.R_alloc | apply Kd.R_drewN | apply Kd.R_drew)); exact Kd.R_mono HO549.out (fun _ hk => hk.2)⟩, ⟨by (with_reducible repeat (first | apply Kd.R_alloc | apply Kd.R_drewN | apply Kd.R_drew)); exact Kd.R_mono HO552.out (fun _ hk => hk.2)⟩, ⟨by repeat (first | (with_reducible first | exact HB.out | apply below_alloc | apply pw_below_drewN | apply below_drew1) | exact HB.out)⟩⟩
 case round =>
  clear H'
  try clear c1
  try clear p2
  try clear c7
  obtain ⟨x13_1, rfl, HA, HK1, HO_5, HO_11, HB⟩ := hrel
  cases gk with
  | zero => exact absurd HA.out (by simp [impl_refused.l0])
  | succ k1 =>
   have H := HA.out
   clear HA
   simp only [impl_refused.l0] at H
   by_cases c8 : x13_1 < (t550.length : Int)
   · rw [if_pos c8] at H
     have c8b0 : decide (x13_1 < (t550.length : Int)) = true := decide_eq_true c8
     clear c8
     by_cases c9 : 0 ≤ x13_1
     · rw [if_pos c9] at H
       have c9b0 : decide (0 ≤ x13_1) = true := decide_eq_true c9
       clear c9
       by_cases c10 : x13_1 < (t550.length : Int)
       · rw [if_pos c10] at H
         have c10b0 : decide (x13_1 < (t550.length : Int)) = true := decide_eq_true c10
         clear c10
         by_cases c11 : x13_1 < (t547.length : Int)
         · rw [if_pos c11] at H
           have c11b0 : decide (x13_1 < (t547.length : Int)) = true := decide_eq_true c11
           clear c11
           by_cases c12 : (rd t550 x13_1) > (rd t547 x13_1)
           · rw [if_pos c12] at H
             have c12b0 : decide ((rd t547 x13_1) < (rd t550 x13_1)) = true := decide_eq_true c12
             clear c12
             obtain rfl := Option.some.inj H
             have p553 : 0 ≤ (x13_1 : Int) := of_decide_eq_true (by first | (with_reducible assumption) | assumption)
             have q553 : x13_1 < (t550.length : Int) := of_decide_eq_true (by first | (with_reducible assumption) | assumption)
             obtain ⟨ad553, e553, hx553_0⟩ := Kd.at_int (Kd.R_reads' HO_11.out).2.2 x13_1 p553 q553
             cases e553
             replace p553 := eq_true p553
             replace q553 := eq_true q553
             obtain ⟨Ao13, co13, eo13⟩ := Kd.R_slice HO_5.out
             subst eo13
             have p554 : 0 ≤ (x13_1 : Int) := of_decide_eq_true (by first | (with_reducible assumption) | assumption)
             have q554 : x13_1 < (t547.length : Int) := of_decide_eq_true (by first | (with_reducible assumption) | assumption)
             obtain ⟨ad554, e554, hx554_0⟩ := Kd.at_int (Kd.R_reads' HO_5.out).2.2 x13_1 p554 q554
             cases e554
             replace p554 := eq_true p554
             replace q554 := eq_true q554
             go_wp2
             go_ret
             exact ⟨by first | rfl | (simp [errW_none, errW_some] <;> rfl) | (simp [*, errW_none, errW_some] <;> rfl), by repeat (first | (with_reducible first | exact HB.out | apply below_alloc | apply pw_below_drewN | apply below_drew1) | exact HB.out)⟩
           · rw [if_neg c12] at H
             have c12b0 : decide ((rd t547 x13_1) < (rd t550 x13_1)) = false := decide_eq_false c12
             clear c12
             have H' := Aside0.mk H
             clear H
             have p553 : 0 ≤ (x13_1 : Int) := of_decide_eq_true (by first | (with_reducible assumption) | assumption)
             have q553 : x13_1 < (t550.length : Int) := of_decide_eq_true (by first | (with_reducible assumption) | assumption)
             obtain ⟨ad553, e553, hx553_0⟩ := Kd.at_int (Kd.R_reads' HO_11.out).2.2 x13_1 p553 q553
             cases e553
             replace p553 := eq_true p553
             replace q553 := eq_true q553
             obtain ⟨Ao14, co14, eo14⟩ := Kd.R_slice HO_5.out
             subst eo14
             have p554 : 0 ≤ (x13_1 : Int) := of_decide_eq_true (by first | (with_reducible assumption) | assumption)
             have q554 : x13_1 < (t547.length : Int) := of_decide_eq_true (by first | (with_reducible assumption) | assumption)
             obtain ⟨ad554, e554, hx554_0⟩ := Kd.at_int (Kd.R_reads' HO_5.out).2.2 x13_1 p554 q554
             cases e554
             replace p554 := eq_true p554
             replace q554 := eq_true q554
             go_wp2
             go_roundg k1
             case measure => have := HK1.out; omega
             case rel => exact ⟨(wrap64 (x13_1 + 1)), (by first | rfl | (simp; done) | (simp [*]; done)), H', ⟨by have := HK1.out; omega⟩, ⟨by (with_reducible repeat (first | apply Kd.R_alloc | apply Kd.R_drewN | apply Kd.R_drew)); exact HO_5.out⟩, ⟨by (with_reducible repeat (first | apply Kd.R_alloc | apply Kd.R_drewN | apply Kd.R_drew)); exact HO_11.out⟩, ⟨by repeat (first | (with_reducible first | exact HB.out | apply below_alloc | apply pw_below_drewN | apply below_drew1) | exact HB.out)⟩⟩
         · rw [if_neg c11] at H
           exact absurd H (by simp)
       · rw [if_neg c10] at H
         exact absurd H (by simp)
     · rw [if_neg c9] at H
       exact absurd H (by simp)
   · rw [if_neg c8] at H
     have c8b0 : decide (x13_1 < (t550.length : Int)) = false := decide_eq_false c8
     clear c8
     obtain rfl := Option.some.inj H
     go_wp2
     go_ret
     exact ⟨by first | rfl | (simp [errW_none, errW_some] <;> rfl) | (simp [*, errW_none, errW_some] <;> rfl), by repeat (first | (with_reducible first | exact HB.out | apply below_alloc | apply pw_below_drewN | apply below_drew1) | exact HB.out)⟩

end Go.Proofs.Ytdkimdlbjeobiaa.A

-- made by a program of this repo (wip/pp.py) through the kit's printer
namespace Go.Proofs.Ytdkimdlbjeobiaa.A
open Go.RowKit Go.Proofs.YtdkimdlbjeobiaaW.PrintWords Go.Proofs.YtdkimdlbjeobiaaW.PrintLast Go.Proofs.YtdkimdlbjeobiaaW.PrintMore
attribute [local go_sem] max2_int min2_int max_two min_two max_three min_three max_four min_four
set_option linter.unusedVariables false
set_option linter.unusedSimpArgs false

/-! ### impl_isMajorized: function 43 -/
def impl_isMajorized.f (k : Nat) (l0 : List Int) (l1 : List Int) : Option (Bool) := (impl_doFit.f k l0 l1).bind fun t555 => (if t555 = true then ((impl_refused.f k l0 l1).bind fun t556 => (some (t556 == 0))) else (some false))
set_option maxHeartbeats 8000000 in
set_option maxRecDepth 100000 in
theorem impl_isMajorized.calls (k : Nat) (A0 : Option Addr) (c0 : Nat) (l0 : List Int) (A1 : Option Addr) (c1 : Nat) (l1 : List Int) (r : Bool) (w : World) (hr0 : Kd.C (Kd.int .i64) w A0 l0.length l0) (hc0 : l0.length ≤ c0) (hr1 : Kd.C (Kd.int .i64) w A1 l1.length l1) (hc1 : l1.length ≤ c1) (h : impl_isMajorized.f k l0 l1 = some r) :
 Calls Try.prog 43 #[.slice A0 l0.length c0, .slice A1 l1.length c1] w fun e w' => e = .returned (.bool r) ∧ Below w.heap.size w w' := by
 have HR0 := Aside0.mk hr0
 have HC0 := Aside0.mk hc0
 clear hr0 hc0
 have HR1 := Aside0.mk hr1
 have HC1 := Aside0.mk hc1
 clear hr1 hc1
 have HB := Aside0.mk (Below.refl w.heap.size w)
 have H : ((impl_doFit.f k l0 l1).bind fun t555 => (if t555 = true then ((impl_refused.f k l0 l1).bind fun t556 => (some (t556 == 0))) else (some false))) = some r := h
 clear h
 replace H := Option.bind_eq_some_iff.mp H
 obtain ⟨t555, A30, H⟩ := H
 replace H : (if t555 = true then ((impl_refused.f k l0 l1).bind fun t556 => (some (t556 == 0))) else (some false)) = some r := H
 have A3 := Aside0.mk A30
 clear A30
 by_cases c4 : t555 = true
 · subst c4
   have H1 : ((impl_refused.f k l0 l1).bind fun t556 => (some (t556 == 0))) = some r := by rw [if_pos rfl] at H; exact H
   clear H
   have H := H1
   clear H1
   replace H := Option.bind_eq_some_iff.mp H
   obtain ⟨t556, A50, H⟩ := H
   replace H : (some (t556 == 0)) = some r := H
   have A5 := Aside0.mk A50
   clear A50
   obtain rfl := Option.some.inj H
   go_enter Try.func43, Try.ntmps43
   go_wp2_with (first | ((with_reducible refine gate_callee (f := 50) rfl ?_); refine goesL_ (some 7) rfl rfl Try.func50 (by kernel_rfl) rfl #[.slice A0 l0.length c0, .slice A1 l1.length c1] rfl (by (try simp only [List.map_toArray, List.map_cons, List.map_nil]); first | done | rfl | (simp only [List.length_drop, List.length_take]; rfl)) ?_; (with_reducible refine (impl_doFit.calls k _ _ l0 _ _ l1 true _ ?side1 ?side2 ?side3 ?side4 A3.out).mono ?_); (case side1 => repeat (first | exact HR0.out | (with_reducible refine Kd.C_alloc ?_ _) | (with_reducible refine Kd.C_drewN ?_ _) | (with_reducible refine Kd.C_drew ?_))); (case side2 => exact HC0.out); (case side3 => repeat (first | exact HR1.out | (with_reducible refine Kd.C_alloc ?_ _) | (with_reducible refine Kd.C_drewN ?_ _) | (with_reducible refine Kd.C_drew ?_))); (case side4 => exact HC1.out); rintro e w' ⟨rfl, ⟨nd, rfl⟩⟩; refine ⟨_, rfl, ?_⟩) | (go_at_call 76; (with_reducible refine (impl_refused.calls k _ _ l0 _ _ l1 t556 _ ?side1 ?side2 ?side3 ?side4 A5.out).mono ?_); (case side1 => repeat (first | exact HR0.out | (with_reducible refine Kd.C_alloc ?_ _) | (with_reducible refine Kd.C_drewN ?_ _) | (with_reducible refine Kd.C_drew ?_))); (case side2 => exact HC0.out); (case side3 => repeat (first | exact HR1.out | (with_reducible refine Kd.C_alloc ?_ _) | (with_reducible refine Kd.C_drewN ?_ _) | (with_reducible refine Kd.C_drew ?_))); (case side4 => exact HC1.out); rintro e w6 ⟨rfl, hb⟩; have n0_ := Aside0.mk (below_step (by repeat (first | (with_reducible first | exact HB.out | apply below_alloc | apply pw_below_drewN | apply below_drew1) | exact HB.out)) hb); clear HB; have HB := n0_; clear n0_; (try clear hb); (try clear hb2); (try clear hk); (try clear hi)))
   go_ret
   exact ⟨by first | rfl | (simp [errW_none, errW_some] <;> rfl) | (simp [*, errW_none, errW_some] <;> rfl), by repeat (first | (with_reducible first | exact HB.out | apply below_alloc | apply pw_below_drewN | apply below_drew1) | exact HB.out)⟩
 · replace c4 := Bool.eq_false_iff.mpr c4
   subst c4
   have H1 : (some false) = some r := by rw [if_neg (show ¬ (false = true) by decide)] at H; exact H
   clear H
   have H := H1
   clear H1
   obtain rfl := Option.some.inj H
   go_enter Try.func43, Try.ntmps43
   go_wp2_with (first | ((with_reducible refine gate_callee (f := 50) rfl ?_); refine goesL_ (some 7) rfl rfl Try.func50 (by kernel_rfl) rfl #[.slice A0 l0.length c0, .slice A1 l1.length c1] rfl (by (try simp only [List.map_toArray, List.map_cons, List.map_nil]); first | done | rfl | (simp only [List.length_drop, List.length_take]; rfl)) ?_; (with_reducible refine (impl_doFit.calls k _ _ l0 _ _ l1 false _ ?side1 ?side2 ?side3 ?side4 A3.out).mono ?_); (case side1 => repeat (first | exact HR0.out | (with_reducible refine Kd.C_alloc ?_ _) | (with_reducible refine Kd.C_drewN ?_ _) | (with_reducible refine Kd.C_drew ?_))); (case side2 => exact HC0.out); (case side3 => repeat (first | exact HR1.out | (with_reducible refine Kd.C_alloc ?_ _) | (with_reducible refine Kd.C_drewN ?_ _) | (with_reducible refine Kd.C_drew ?_))); (case side4 => exact HC1.out); rintro e w' ⟨rfl, ⟨nd, rfl⟩⟩; refine ⟨_, rfl, ?_⟩))
   go_ret
   exact ⟨by first | rfl | (simp [errW_none, errW_some] <;> rfl) | (simp [*, errW_none, errW_some] <;> rfl), by repeat (first | (with_reducible first | exact HB.out | apply below_alloc | apply pw_below_drewN | apply below_drew1) | exact HB.out)⟩

end Go.Proofs.Ytdkimdlbjeobiaa.A

-- made by a program of this repo (wip/pp.py) through the kit's printer
namespace Go.Proofs.Ytdkimdlbjeobiaa.A
open Go.RowKit Go.Proofs.YtdkimdlbjeobiaaW.PrintWords Go.Proofs.YtdkimdlbjeobiaaW.PrintLast Go.Proofs.YtdkimdlbjeobiaaW.PrintMore
attribute [local go_sem] max2_int min2_int max_two min_two max_three min_three max_four min_four
set_option linter.unusedVariables false
set_option linter.unusedSimpArgs false

/-! ### impl_rankings: function 65 -/
mutual
def impl_rankings.l0 : Nat → Int → Int → List (List Int) → Int → Option ((List (List Int)))
 | 0, _, _, _, _ => none
 | k + 1, x0, x1, x7, x8 => if x8 ≥ 0 then (impl_rankings.j1 k x0 x1 x7 x8 (decide ((wrap64 (x8 * x0)) ≥ x1))) else (impl_rankings.j1 k x0 x1 x7 x8 false)
def impl_rankings.j1 : Nat → Int → Int → List (List Int) → Int → Bool → Option ((List (List Int)))
 | 0, _, _, _, _, _ => none
 | k + 1, x0, x1, x7, x8, x29 => if x29 = true then ((impl_rankings.f k (wrap64 (x0 - 1)) (wrap64 (x1 - x8)) x8).bind fun t264 => (impl_rankings.l1 k x0 x1 x7 x8 t264 (t264.length : Int) 0)) else (some x7)
def impl_rankings.l1 : Nat → Int → Int → List (List Int) → Int → List (List Int) → Int → Int → Option ((List (List Int)))
 | 0, _, _, _, _, _, _, _ => none
 | k + 1, x0, x1, x7, x8, x38, x39, x40 => if x40 < x39 then (if 0 ≤ x40 then (if x40 < (x38.length : Int) then ((some (([x8] : List Int) : List Int)).bind fun y268 => (if y268.length + (rd_L1 x38 x40).length < 17592186044416 then (if x7.length < 5864062014805 then (impl_rankings.l1 k x0 x1 (x7 ++ [(y268 ++ (rd_L1 x38 x40))]) x8 x38 x39 (wrap64 (x40 + 1))) else (none)) else (none))) else (none)) else (none)) else (impl_rankings.l0 k x0 x1 x7 (wrap64 (x8 - 1)))
def impl_rankings.f : Nat → Int → Int → Int → Option ((List (List Int)))
 | 0, _, _, _ => none
 | k + 1, a0, a1, a2 => if a0 = 0 then (if a1 = 0 then (some (([(([] : List Int))] : List (List Int)))) else (some ([] : List (List Int)))) else (impl_rankings.l0 k a0 a1 (([] : List (List Int))) (mn a1 a2))
end
set_option maxHeartbeats 8000000 in
set_option maxRecDepth 100000 in
theorem impl_rankings.calls (k : Nat) : ∀ (a0 : Int) (a1 : Int) (a2 : Int) (r : List (List Int)) (w : World) (h : impl_rankings.f k a0 a1 a2 = some r),
 Calls Try.prog 65 #[.int .i64 a0, .int .i64 a1, .int .i64 a2] w fun e w' => ∃ v0_ : Value, e = .returned (v0_) ∧ Kd.S (Kd.slice 3 (Kd.int .i64)) 22 w' w.heap.size (fun _ => True) v0_ r ∧ Below w.heap.size w w' := by
 induction k using Nat.strongRecOn with
 | _ k ih =>
 intro a0 a1 a2 r w h
 cases k with
 | zero => exact absurd h (by simp [impl_rankings.f])
 | succ k =>
 simp only [impl_rankings.f] at h
 have HB := Aside0.mk (Below.refl w.heap.size w)
 have H : (if a0 = 0 then (if a1 = 0 then (some (([(([] : List Int))] : List (List Int)))) else (some ([] : List (List Int)))) else (impl_rankings.l0 k a0 a1 (([] : List (List Int))) (mn a1 a2))) = some r := h
 clear h
 by_cases c4 : a0 = 0
 · rw [if_pos c4] at H
   have c4b0 : (a0 == 0) = true := beq_iff_eq.mpr c4
   have c4b1 : (a0 != 0) = false := bne_eq_false_iff_eq.mpr c4
   clear c4
   by_cases c5 : a1 = 0
   · rw [if_pos c5] at H
     have c5b0 : (a1 == 0) = true := beq_iff_eq.mpr c5
     have c5b1 : (a1 != 0) = false := bne_eq_false_iff_eq.mpr c5
     clear c5
     obtain ⟨y255, hy255⟩ : ∃ y_ : List Int, y_ = (([] : List Int)) := ⟨_, rfl⟩
     replace H : (some (([y255] : List (List Int)))) = some r := by first | (rw [hy255]; with_reducible exact H) | (have H2_ := (Option.bind_some _ _).symm.trans H; rw [hy255]; with_reducible exact H2_) | (have H2_ := (Option.bind_some _ _).symm.trans H; with_reducible exact H2_) | with_reducible exact H | (rw [hy255]; exact H) | exact H
     have Ny255 := Aside0.mk hy255
     clear hy255
     obtain ⟨y258, hy258⟩ : ∃ y_ : List (List Int), y_ = (([y255] : List (List Int))) := ⟨_, rfl⟩
     replace H : (some y258) = some r := by first | (rw [hy258]; with_reducible exact H) | (have H2_ := (Option.bind_some _ _).symm.trans H; rw [hy258]; with_reducible exact H2_) | (have H2_ := (Option.bind_some _ _).symm.trans H; with_reducible exact H2_) | with_reducible exact H | (rw [hy258]; exact H) | exact H
     have Ny258 := Aside0.mk hy258
     clear hy258
     obtain rfl := Option.some.inj H
     go_enter Try.func65, Try.ntmps65
     go_wp2_with (first | ((with_reducible refine gate_dst (N := 15) rfl ?_); refine Kd.R_lit (Kd.int .i64) _ 3 ?hg (N := 15) ?hd (xs := ([] : List Int)) (inner := []) (ok := fun _ => True) (okp := fun _ => True) ?hr ?hp (fun _ hk => hk) trivial (Below.refl _ _) (Nat.le_refl _) (by simp) ?_; (case hd => rfl); (case hg => rfl); (case hr => first | (go_simp; done) | (go_simp; rfl)); (case hp => exact (Reps.none _ _)); intro v256 w6 ho7 hb hg_ hnew_; clear hg_ hnew_; (first | rw [← Ny255.out] at ho7 | (simp only [Int.reduceToNat] at ho7; rw [← Ny255.out] at ho7)); have n0_ := Aside0.mk (Kd.R_lower ho7 (below_size (by repeat (first | (with_reducible first | exact HB.out | apply below_alloc | apply pw_below_drewN | apply below_drew1) | exact HB.out)))); have n1_ := Aside0.mk (below_step (by repeat (first | (with_reducible first | exact HB.out | apply below_alloc | apply pw_below_drewN | apply below_drew1) | exact HB.out)) hb); clear HB; have HO257 := n0_; have HB := n1_; clear n0_ n1_; clear hb ho7; obtain ⟨Ao8, co8, eo8⟩ := Kd.R_slice HO257.out; subst eo8) | ((with_reducible refine gate_dst (N := 16) rfl ?_); refine Kd.S_lits (Kd.slice 3 (Kd.int .i64)) _ 22 ?hg (N := 16) ?hd (xs := ([y255] : List (List Int))) (inner := [.slice Ao8 y255.length co8]) (ok := fun _ => True) (fun j_ _ => j_ = 0) ?hr rfl ?hp (fun i_ j_ _ h1 h2 => h1.trans h2.symm) (fun _ _ _ => trivial) trivial (Below.refl _ _) (below_size (by repeat (first | (with_reducible first | exact HB.out | apply below_alloc | apply pw_below_drewN | apply below_drew1) | exact HB.out))) (by simp) ?_; (case hd => rfl); (case hg => rfl); (case hr => first | (go_simp; done) | (go_simp; rfl)); (case hp => intro j_ x_ hx_; cases j_ with | zero => (simp only [List.getElem?_cons_zero, Option.some.injEq] at hx_; subst hx_; exact ⟨_, rfl, Kd.R_mono (by (with_reducible repeat (first | apply Kd.R_alloc | apply Kd.R_drewN | apply Kd.R_drew)); exact HO257.out) (fun _ _ => rfl)⟩) | succ j_ => simp at hx_); intro v259 w9 hoLITho10 hb hg_ hnew_; replace hb := (fun {a b : World} (h : a.grownBy b none) => (⟨h.os, h.tape, h.output, h.size, fun i hi => h.block i hi (by simp)⟩ : Below a.heap.size a b)) hg_; clear hg_ hnew_; (first | rw [← Ny258.out] at hoLITho10 | (simp only [Int.reduceToNat] at hoLITho10; rw [← Ny258.out] at hoLITho10)); have n0_ := Aside0.mk (hoLITho10); have n1_ := Aside0.mk (below_step (by repeat (first | (with_reducible first | exact HB.out | apply below_alloc | apply pw_below_drewN | apply below_drew1) | exact HB.out)) hb); clear HB; clear HO257; have HO260 := n0_; have HB := n1_; clear n0_ n1_; clear hb hoLITho10))
     go_ret
     exact ⟨_, by first | rfl | (simp [errW_none, errW_some] <;> rfl) | (simp [*, errW_none, errW_some] <;> rfl), by (with_reducible repeat (first | apply Kd.S_alloc | apply Kd.S_drewN | apply Kd.S_drew)); exact HO260.out, by repeat (first | (with_reducible first | exact HB.out | apply below_alloc | apply pw_below_drewN | apply below_drew1) | exact HB.out)⟩
   · rw [if_neg c5] at H
     have c5b0 : (a1 == 0) = false := beq_eq_false_iff_ne.mpr c5
     have c5b1 : (a1 != 0) = true := bne_iff_ne.mpr c5
     obtain rfl := Option.some.inj H
     go_enter Try.func65, Try.ntmps65
     go_wp2
     go_ret
     exact ⟨_, by first | rfl | (simp [errW_none, errW_some] <;> rfl) | (simp [*, errW_none, errW_some] <;> rfl), by first | exact Kd.S_nil _ _ _ _ _ | exact Kd.N_nil _ _ _ _ _ | exact Kd.V_nil _ _ _ _ _ | exact Kd.Q_nil _ _ _ _ _ | exact Kd.R_nil _ _ _ _ _, by repeat (first | (with_reducible first | exact HB.out | apply below_alloc | apply pw_below_drewN | apply below_drew1) | exact HB.out)⟩
 · rw [if_neg c4] at H
   have c4b0 : (a0 == 0) = false := beq_eq_false_iff_ne.mpr c4
   have c4b1 : (a0 != 0) = true := bne_iff_ne.mpr c4
   obtain ⟨y261, hy261⟩ : ∃ y_ : List (List Int), y_ = (([] : List (List Int))) := ⟨_, rfl⟩
   replace H : (impl_rankings.l0 k a0 a1 y261 (mn a1 a2)) = some r := by first | (rw [hy261]; with_reducible exact H) | (have H2_ := (Option.bind_some _ _).symm.trans H; rw [hy261]; with_reducible exact H2_) | (have H2_ := (Option.bind_some _ _).symm.trans H; with_reducible exact H2_) | with_reducible exact H | (rw [hy261]; exact H) | exact H
   have Ny261 := Aside0.mk hy261
   clear hy261
   obtain ⟨ji11, hji11⟩ : ∃ j_ : Int, (mn a1 a2) = j_ := ⟨_, rfl⟩
   replace H : (impl_rankings.l0 k a0 a1 y261 ji11) = some r := by first | (rw [hji11] at H; exact H) | (simp only [hji11] at H ⊢; exact H)
   have hji11_ : (if a2 < a1 then a2 else a1) = ji11 := hji11
   have H' := Aside0.mk H
   clear H
   go_enter Try.func65, Try.ntmps65
   go_wp2_with (first | ((with_reducible refine gate_dst (N := 17) rfl ?_); refine Kd.S_lit (Kd.slice 3 (Kd.int .i64)) _ 22 ?hg (N := 17) ?hd (xs := ([] : List (List Int))) (inner := []) (ok := fun _ => True) (okp := fun _ => True) ?hr ?hp (fun _ hk => hk) trivial (Below.refl _ _) (Nat.le_refl _) (by simp) ?_; (case hd => rfl); (case hg => rfl); (case hr => first | (go_simp; done) | (go_simp; rfl)); (case hp => exact (Reps.none _ _)); intro v262 w12 ho13 hb hg_ hnew_; clear hg_ hnew_; (first | rw [← Ny261.out] at ho13 | (simp only [Int.reduceToNat] at ho13; rw [← Ny261.out] at ho13)); have n0_ := Aside0.mk (Kd.S_lower ho13 (below_size (by repeat (first | (with_reducible first | exact HB.out | apply below_alloc | apply pw_below_drewN | apply below_drew1) | exact HB.out)))); have n1_ := Aside0.mk (below_step (by repeat (first | (with_reducible first | exact HB.out | apply below_alloc | apply pw_below_drewN | apply below_drew1) | exact HB.out)) hb); clear HB; have HO263 := n0_; have HB := n1_; clear n0_ n1_; clear hb ho13))
   go_loopg [7, 8] k (fun kq v7 v8 w' => ∃ (x7_1 : List (List Int)) (x8_1 : Int), v8 = .int .i64 x8_1 ∧ Aside0 (impl_rankings.l0 kq a0 a1 x7_1 x8_1 = some r) ∧ Aside0 (kq ≤ k) ∧ Aside0 (Kd.S (Kd.slice 3 (Kd.int .i64)) 22 w' w.heap.size (fun _ => True) v7 x7_1) ∧ Aside0 (Below w.heap.size w w'))
   case atStart => exact ⟨(y261), (ji11), (by first | rfl | (simp; done) | (simp only [← hji11] <;> (first | rfl | simp)) | (simp [*]; done)), H', ⟨Nat.le_refl _⟩, ⟨by (with_reducible repeat (first | apply Kd.S_alloc | apply Kd.S_drewN | apply Kd.S_drew)); exact HO263.out⟩, ⟨by repeat (first | (with_reducible first | exact HB.out | apply below_alloc | apply pw_below_drewN | apply below_drew1) | exact HB.out)⟩⟩
   case round =>
    clear H'
    try clear p2
    try clear c4
    try clear c4b0
    try clear c4b1
    try clear c5
    try clear c5b0
    try clear c5b1
    try clear c6
    obtain ⟨x7_1, x8_1, rfl, HA, HK1, HO_7, HB⟩ := hrel
    cases gk with
    | zero => exact absurd HA.out (by simp [impl_rankings.l0])
    | succ k1 =>
     have H := HA.out
     clear HA
     simp only [impl_rankings.l0] at H
     have HC14 := Aside0.mk H
     clear H
     go_upto_region 7 with (fail)
     go_cut [29] (fun v29 wc => ∃ (kq : Nat) (x29_13 : Bool), v29 = .bool x29_13 ∧ Aside0 (impl_rankings.j1 kq a0 a1 x7_1 x8_1 x29_13 = some r) ∧ Aside0 (kq ≤ k1) ∧ Aside0 (Kd.S (Kd.slice 3 (Kd.int .i64)) 22 wc w.heap.size (fun _ => True) u7 x7_1) ∧ Aside0 (Below w.heap.size w wc))
     case first =>
      have H := HC14.out
      clear HC14
      by_cases c15 : x8_1 ≥ 0
      · rw [if_pos c15] at H
        have c15b0 : decide (0 ≤ x8_1) = true := decide_eq_true c15
        clear c15
        (first | rw [c15b0] | (simp only [i64_w, i32_w]; rw [c15b0]) | skip)
        have H' := Aside0.mk H
        clear H
        go_wp2
        go_meet
        case rel => exact ⟨_, (decide ((wrap64 (x8_1 * a0)) ≥ a1)), (by first | rfl | (simp; done) | (simp [*]; done)), H', ⟨by have := HK1.out; first | omega | exact Nat.le_refl _⟩, ⟨by (with_reducible repeat (first | apply Kd.S_alloc | apply Kd.S_drewN | apply Kd.S_drew)); exact HO_7.out⟩, ⟨by repeat (first | (with_reducible first | exact HB.out | apply below_alloc | apply pw_below_drewN | apply below_drew1) | exact HB.out)⟩⟩
      · rw [if_neg c15] at H
        have c15b0 : decide (0 ≤ x8_1) = false := decide_eq_false c15
        clear c15
        (first | rw [c15b0] | (simp only [i64_w, i32_w]; rw [c15b0]) | skip)
        have H' := Aside0.mk H
        clear H
        go_wp2
        go_meet
        case rel => exact ⟨_, (false), (by first | rfl | (simp; done) | (simp [*]; done)), H', ⟨by have := HK1.out; first | omega | exact Nat.le_refl _⟩, ⟨by (with_reducible repeat (first | apply Kd.S_alloc | apply Kd.S_drewN | apply Kd.S_drew)); exact HO_7.out⟩, ⟨by repeat (first | (with_reducible first | exact HB.out | apply below_alloc | apply pw_below_drewN | apply below_drew1) | exact HB.out)⟩⟩
     case rest =>
      clear HC14
      try clear c1
      try clear p2
      try clear c4
      try clear c4b0
      try clear c4b1
      try clear c5
      try clear c5b0
      try clear c5b1
      try clear c6
      try clear p6
      try clear c15
      try clear c15b0
      try clear p2
      obtain ⟨kq, x29_13, rfl, HA, HJ13, HO_7, HB⟩ := hcut
      cases kq with
      | zero => exact absurd HA.out (by simp [impl_rankings.j1])
      | succ kj13 =>
       have H := HA.out
       clear HA
       simp only [impl_rankings.j1] at H
       by_cases c16 : x29_13 = true
       · subst c16
         have H1 : ((impl_rankings.f kj13 (wrap64 (a0 - 1)) (wrap64 (a1 - x8_1)) x8_1).bind fun t264 => (impl_rankings.l1 kj13 a0 a1 x7_1 x8_1 t264 (t264.length : Int) 0)) = some r := by rw [if_pos rfl] at H; exact H
         clear H
         have H := H1
         clear H1
         replace H := Option.bind_eq_some_iff.mp H
         obtain ⟨t264, A170, H⟩ := H
         replace H : (impl_rankings.l1 kj13 a0 a1 x7_1 x8_1 t264 (t264.length : Int) 0) = some r := H
         have A17 := Aside0.mk A170
         clear A170
         have H' := Aside0.mk H
         clear H
         go_wp2_with (first | ((with_reducible refine gate_callee (f := 65) rfl ?_); refine goesL_ (some 38) rfl rfl Try.func65 (by kernel_rfl) rfl #[.int .i64 (wrap64 (a0 - 1)), .int .i64 (wrap64 (a1 - x8_1)), .int .i64 x8_1] rfl (by (try simp only [List.map_toArray, List.map_cons, List.map_nil]); first | done | rfl | (simp only [List.length_drop, List.length_take]; rfl)) ?_; (with_reducible refine (ih kj13 (by have := HK1.out; have := HJ13.out; omega) (wrap64 (a0 - 1)) (wrap64 (a1 - x8_1)) x8_1 t264 _ A17.out).mono ?_); rintro e w18 ⟨v265, rfl, ho0, hb⟩; refine ⟨_, rfl, ?_⟩; have n0_ := Aside0.mk (Kd.S_elder' (by (with_reducible repeat (first | apply Kd.S_alloc | apply Kd.S_drewN | apply Kd.S_drew)); exact HO_7.out) (Kd.S_base ho0) hb); have n1_ := Aside0.mk (Kd.S_lower (Kd.S_new' ho0 (Kd.S_lt (by (with_reducible repeat (first | apply Kd.S_alloc | apply Kd.S_drewN | apply Kd.S_drew)); exact HO_7.out))) (below_size (by repeat (first | (with_reducible first | exact HB.out | apply below_alloc | apply pw_below_drewN | apply below_drew1) | exact HB.out)))); have n2_ := Aside0.mk (below_step (by repeat (first | (with_reducible first | exact HB.out | apply below_alloc | apply pw_below_drewN | apply below_drew1) | exact HB.out)) hb); clear HO_7; clear HB; have HO_7 := n0_; have HO266 := n1_; have HB := n2_; clear n0_ n1_ n2_; (try clear hb); (try clear hb2); (try clear hk); (try clear hi); (try clear ho0); obtain ⟨Ao19, co19, eo19⟩ := Kd.S_slice HO266.out; subst eo19))
         go_loopg [7, 40] kj13 (fun kq v7 v40 w' => ∃ (x7_3 : List (List Int)) (x40_3 : Int), v40 = .int .i64 x40_3 ∧ Aside0 (impl_rankings.l1 kq a0 a1 x7_3 x8_1 t264 (t264.length : Int) x40_3 = some r) ∧ Aside0 (kq ≤ kj13) ∧ Aside0 (Kd.S (Kd.slice 3 (Kd.int .i64)) 22 w' w.heap.size (fun k_ => some k_ ≠ ((.slice Ao19 t264.length co19) : Value).ownBlock) v7 x7_3) ∧ Aside0 (Kd.S (Kd.slice 3 (Kd.int .i64)) 22 w' w.heap.size (fun k_ => some k_ ≠ (v7 : Value).ownBlock) (.slice Ao19 t264.length co19) t264) ∧ Aside0 (Below w.heap.size w w'))
         case atStart => exact ⟨(x7_1), (0), (by first | rfl | (simp; done) | (simp [*]; done)), H', ⟨Nat.le_refl _⟩, ⟨by (with_reducible repeat (first | apply Kd.S_alloc | apply Kd.S_drewN | apply Kd.S_drew)); exact Kd.S_mono HO_7.out (fun _ hk => hk.2)⟩, ⟨by (with_reducible repeat (first | apply Kd.S_alloc | apply Kd.S_drewN | apply Kd.S_drew)); exact Kd.S_mono HO266.out (fun _ hk => hk.2)⟩, ⟨by repeat (first | (with_reducible first | exact HB.out | apply below_alloc | apply pw_below_drewN | apply below_drew1) | exact HB.out)⟩⟩
         case round =>
          clear H'
          try clear c1
          try clear p2
          try clear c4
          try clear c4b0
          try clear c4b1
          try clear c5
          try clear c5b0
          try clear c5b1
          try clear c6
          try clear p6
          try clear c15
          try clear c15b0
          try clear c16
          try clear p2
          try clear p6
          obtain ⟨x7_3, x40_3, rfl, HA, HK3, HO_7, HO_38, HB⟩ := hrel
          cases gk with
          | zero => exact absurd HA.out (by simp [impl_rankings.l1])
          | succ k3 =>
           have H := HA.out
           clear HA
           simp only [impl_rankings.l1] at H
           by_cases c20 : x40_3 < (t264.length : Int)
           · rw [if_pos c20] at H
             have c20b0 : decide (x40_3 < (t264.length : Int)) = true := decide_eq_true c20
             clear c20
             by_cases c21 : 0 ≤ x40_3
             · rw [if_pos c21] at H
               have c21b0 : decide (0 ≤ x40_3) = true := decide_eq_true c21
               clear c21
               by_cases c22 : x40_3 < (t264.length : Int)
               · rw [if_pos c22] at H
                 have c22b0 : decide (x40_3 < (t264.length : Int)) = true := decide_eq_true c22
                 clear c22
                 obtain ⟨y268, hy268⟩ : ∃ y_ : List Int, y_ = (([x8_1] : List Int)) := ⟨_, rfl⟩
                 replace H : (if y268.length + (rd_L1 t264 x40_3).length < 17592186044416 then (if x7_3.length < 5864062014805 then (impl_rankings.l1 k3 a0 a1 (x7_3 ++ [(y268 ++ (rd_L1 t264 x40_3))]) x8_1 t264 (t264.length : Int) (wrap64 (x40_3 + 1))) else (none)) else (none)) = some r := by first | (rw [hy268]; with_reducible exact H) | (have H2_ := (Option.bind_some _ _).symm.trans H; rw [hy268]; with_reducible exact H2_) | (have H2_ := (Option.bind_some _ _).symm.trans H; with_reducible exact H2_) | with_reducible exact H | (rw [hy268]; exact H) | exact H
                 have Ny268 := Aside0.mk hy268
                 clear hy268
                 by_cases c23 : y268.length + (rd_L1 t264 x40_3).length < 17592186044416
                 · rw [if_pos c23] at H
                   have LMc23 := Aside0.mk c23
                   clear c23
                   obtain ⟨y271, hy271⟩ : ∃ y_ : List Int, y_ = (y268 ++ (rd_L1 t264 x40_3)) := ⟨_, rfl⟩
                   replace H : (if x7_3.length < 5864062014805 then (impl_rankings.l1 k3 a0 a1 (x7_3 ++ [y271]) x8_1 t264 (t264.length : Int) (wrap64 (x40_3 + 1))) else (none)) = some r := by first | (rw [hy271]; with_reducible exact H) | (have H2_ := (Option.bind_some _ _).symm.trans H; rw [hy271]; with_reducible exact H2_) | (have H2_ := (Option.bind_some _ _).symm.trans H; with_reducible exact H2_) | with_reducible exact H | (rw [hy271]; exact H) | exact H
                   have Ny271 := Aside0.mk hy271
                   clear hy271
                   by_cases c24 : x7_3.length < 5864062014805
                   · rw [if_pos c24] at H
                     have LMc24 := Aside0.mk c24
                     clear c24
                     obtain ⟨y274, hy274⟩ : ∃ y_ : List (List Int), y_ = (x7_3 ++ [y271]) := ⟨_, rfl⟩
                     replace H : (impl_rankings.l1 k3 a0 a1 y274 x8_1 t264 (t264.length : Int) (wrap64 (x40_3 + 1))) = some r := by first | (rw [hy274]; with_reducible exact H) | (have H2_ := (Option.bind_some _ _).symm.trans H; rw [hy274]; with_reducible exact H2_) | (have H2_ := (Option.bind_some _ _).symm.trans H; with_reducible exact H2_) | with_reducible exact H | (rw [hy274]; exact H) | exact H
                     have Ny274 := Aside0.mk hy274
                     clear hy274
                     have H' := Aside0.mk H
                     clear H
                     have p267 : 0 ≤ (x40_3 : Int) := of_decide_eq_true (by first | (with_reducible assumption) | assumption)
                     have q267 : x40_3 < (t264.length : Int) := of_decide_eq_true (by first | (with_reducible assumption) | assumption)
                     obtain ⟨ad267, A267_0, c267_0, e267, hx267_0, hl267_0, hi267_0⟩ := at_L1 (Kd.S_reads' HO_38.out).2.2 x40_3 p267 q267
                     cases e267
                     obtain ⟨ce267, hce267, hMe267, hcc267⟩ := Kd.S_get HO_38.out [] x40_3 p267 (by first | exact q267 | exact of_decide_eq_true (by first | (with_reducible assumption) | assumption) | (have e_ := (Kd.S_reads' HO_38.out).1; omega))
                     obtain ⟨ve267_0, rfl, ge267_0⟩ := hMe267
                     have hv267_0 := hcc267 0 _ rfl
                     rw [Nat.add_zero, show ((Kd.slice 3 (Kd.int .i64))).sz = 1 from rfl, Nat.mul_one] at hv267_0
                     replace hv267_0 := Option.some.inj (hv267_0.symm.trans hx267_0)
                     rw [hv267_0] at ge267_0
                     have HL267_0 := Aside0.mk (show Kd.R (Kd.int .i64) 3 _ _ _ _ (rd_L1 t264 x40_3) from ge267_0)
                     clear hv267_0 ge267_0
                     clear hcc267 hce267
                     have HR267_0 := Aside0.mk hi267_0
                     have HC267_0 := Aside0.mk hl267_0
                     clear hi267_0 hl267_0
                     replace p267 := eq_true p267
                     replace q267 := eq_true q267
                     go_wp2_with (first | ((with_reducible refine gate_dst (N := 46) rfl ?_); refine Kd.R_lit (Kd.int .i64) _ 3 ?hg (N := 46) ?hd (xs := ([x8_1] : List Int)) (inner := [.int .i64 x8_1]) (ok := fun _ => True) (okp := fun _ => True) ?hr ?hp (fun _ hk => hk) trivial (Below.refl _ _) (Nat.le_refl _) (by simp) ?_; (case hd => rfl); (case hg => rfl); (case hr => first | (go_simp; done) | (go_simp; rfl)); (case hp => exact (Reps.one (show Kd.M (Kd.int .i64) _ _ _ x8_1 [.int .i64 x8_1] from rfl) (Reps.none _ _))); intro v269 w25 ho26 hb hg_ hnew_; clear hg_ hnew_; (first | rw [← Ny268.out] at ho26 | (simp only [Int.reduceToNat] at ho26; rw [← Ny268.out] at ho26)); have n0_ := Aside0.mk (Kd.S_elder' (by (with_reducible repeat (first | apply Kd.S_alloc | apply Kd.S_drewN | apply Kd.S_drew)); exact HO_7.out) (Kd.R_base ho26) hb); have n1_ := Aside0.mk (Kd.S_elder' (by (with_reducible repeat (first | apply Kd.S_alloc | apply Kd.S_drewN | apply Kd.S_drew)); exact HO_38.out) (Kd.R_base ho26) hb); have n2_ := Aside0.mk (Kd.R_elder' (by (with_reducible repeat (first | apply Kd.R_alloc | apply Kd.R_drewN | apply Kd.R_drew)); exact HL267_0.out) (Kd.R_base ho26) hb); have n3_ := Aside0.mk (Kd.R_lower (Kd.R_new' ho26 (Kd.R_lt (by (with_reducible repeat (first | apply Kd.R_alloc | apply Kd.R_drewN | apply Kd.R_drew)); exact HL267_0.out))) (below_size (by repeat (first | (with_reducible first | exact HB.out | apply below_alloc | apply pw_below_drewN | apply below_drew1) | exact HB.out)))); have n4_ := Aside0.mk (Kd.C_below (by repeat (first | (with_reducible exact HR267_0.out) | (with_reducible refine Kd.C_alloc ?_ _) | (with_reducible refine Kd.C_drewN ?_ _) | (with_reducible refine Kd.C_drew ?_) | exact HR267_0.out)) hb); have n5_ := Aside0.mk (below_step (by repeat (first | (with_reducible first | exact HB.out | apply below_alloc | apply pw_below_drewN | apply below_drew1) | exact HB.out)) hb); clear HO_7; clear HO_38; clear HL267_0; clear HR267_0; clear HB; have HO_7 := n0_; have HO_38 := n1_; have HL267_0 := n2_; have HO270 := n3_; have HR267_0 := n4_; have HB := n5_; clear n0_ n1_ n2_ n3_ n4_ n5_; clear hb ho26) | ((with_reducible refine gate_builtin (b := .append) (xs := #[.tmp 46, .tmp 47]) rfl ?_); at_builtin; refine Kd.R_append_rows (Kd.int .i64) (w0 := w) w.heap.size rfl (.tmp 46) (.tmp 47) 22 3 (.int .i64 0) 8 rfl Try.underlying22 info3 rfl (by decide) (by omega) v269 y268 (rd_L1 t264 x40_3) _ _ _ (fun k_ => some k_ ≠ (.slice A267_0 (rd_L1 t264 x40_3).length c267_0 : Value).ownBlock) (fun _ => False) rfl rfl ?aO ?aR (fun _ _ h => h) (fun _ h => h.elim) ?aF ?aB ?aS ?aL ?_; (case aR => repeat (first | exact (by repeat (first | (with_reducible exact HR267_0.out) | (with_reducible refine Kd.C_alloc ?_ _) | (with_reducible refine Kd.C_drewN ?_ _) | (with_reducible refine Kd.C_drew ?_) | exact HR267_0.out)) | (with_reducible refine Kd.C_alloc ?_ _) | (with_reducible refine Kd.C_drewN ?_ _) | (with_reducible refine Kd.C_drew ?_))); (case aB => exact (by repeat (first | (with_reducible first | exact HB.out | apply below_alloc | apply pw_below_drewN | apply below_drew1) | exact HB.out))); (case aF => exact (fun k_ hk => Kd.fresh' (Kd.R_lt (by (with_reducible repeat (first | apply Kd.R_alloc | apply Kd.R_drewN | apply Kd.R_drew)); exact HL267_0.out)) k_ hk)); (case aO => exact (by (with_reducible repeat (first | apply Kd.R_alloc | apply Kd.R_drewN | apply Kd.R_drew)); exact Kd.R_mono HO270.out (fun _ hk => hk.2))); (case aS => exact (below_size (by repeat (first | (with_reducible first | exact HB.out | apply below_alloc | apply pw_below_drewN | apply below_drew1) | exact HB.out)))); (case aL => have := LMc23.out; omega); intro v272 w27 ho hb hg hat; rw [← Ny271.out] at ho; have n0_ := Aside0.mk (Kd.S_after (ok := (fun k_ => some k_ ≠ (.slice (some ad267) t264.length co19 : Value).ownBlock)) (by (with_reducible repeat (first | apply Kd.S_alloc | apply Kd.S_drewN | apply Kd.S_drew)); exact HO_7.out) hg hat); have n1_ := Aside0.mk (Kd.S_after (ok := (fun k_ => some k_ ≠ (u7 : Value).ownBlock)) (by (with_reducible repeat (first | apply Kd.S_alloc | apply Kd.S_drewN | apply Kd.S_drew)); exact HO_38.out) hg hat); have n2_ := Aside0.mk (Kd.R_after (ok := (fun k_ => some k_ ≠ (u7 : Value).ownBlock ∧ some k_ ≠ (.slice (some ad267) t264.length co19 : Value).ownBlock)) (by (with_reducible repeat (first | apply Kd.R_alloc | apply Kd.R_drewN | apply Kd.R_drew)); exact HL267_0.out) hg hat); have n3_ := Aside0.mk (hb); have n4_ := Aside0.mk (ho); clear HO_7; clear HO_38; clear HL267_0; clear HB; clear HO270; have HO_7 := n0_; have HO_38 := n1_; have HL267_0 := n2_; have HB := n3_; have HO273 := n4_; clear n0_ n1_ n2_ n3_ n4_; clear ho hb hg hat; obtain ⟨Ao29, co29, eo29⟩ := Kd.R_slice HO273.out; subst eo29) | ((with_reducible refine gate_builtin (b := .append) (xs := #[.tmp 44, .tmp 49]) rfl ?_); at_builtin; refine Kd.S_append (Kd.slice 3 (Kd.int .i64)) (w0 := w) w.heap.size rfl (.tmp 44) (.tmp 49) 23 22 (.slice none 0 0) 24 rfl Try.underlying23 info22 rfl (by decide) (by omega) u7 x7_3 y271 [.slice Ao29 y271.length co29] (fun k_ => some k_ ≠ (.slice (some ad267) t264.length co19 : Value).ownBlock) (fun k_ => some k_ = (.slice Ao29 y271.length co29 : Value).ownBlock) rfl rfl ?aP (fun k_ hk_ => ((Kd.R_mono (ok' := fun k_ => ((fun k_ => some k_ ≠ (.slice (some ad267) t264.length co19 : Value).ownBlock)) k_ ∧ some k_ ≠ (u7 : Value).ownBlock) (Kd.R_apart' (Kd.R_apart' (HO273.out) (Kd.S_typed HO_38.out) (by decide)) (Kd.S_typed HO_7.out) (by decide)) (fun k_ hk => ⟨hk.1.2, hk.2⟩))).1 k_ hk_.symm) ?aF ?aO ?aB ?aS ?aL ?_; (case aP => exact Kd.M_row (Kd.R_mono (Kd.R_tight rfl (Kd.R_mono (ok' := fun k_ => ((fun k_ => some k_ ≠ (.slice (some ad267) t264.length co19 : Value).ownBlock)) k_ ∧ some k_ ≠ (u7 : Value).ownBlock) (Kd.R_apart' (Kd.R_apart' (HO273.out) (Kd.S_typed HO_38.out) (by decide)) (Kd.S_typed HO_7.out) (by decide)) (fun k_ hk => ⟨hk.1.2, hk.2⟩))) (fun _ h_ => h_))); (case aB => exact (by repeat (first | (with_reducible first | exact HB.out | apply below_alloc | apply pw_below_drewN | apply below_drew1) | exact HB.out))); (case aF => exact (fun k_ hk => Kd.fresh' (Kd.S_lt (by (with_reducible repeat (first | apply Kd.S_alloc | apply Kd.S_drewN | apply Kd.S_drew)); exact HO_38.out)) k_ hk)); (case aO => exact (by (with_reducible repeat (first | apply Kd.S_alloc | apply Kd.S_drewN | apply Kd.S_drew)); exact Kd.S_mono HO_7.out (fun k_ hk => ⟨hk.1, fun e_ => hk.2 e_⟩))); (case aS => exact (below_size (by repeat (first | (with_reducible first | exact HB.out | apply below_alloc | apply pw_below_drewN | apply below_drew1) | exact HB.out)))); (case aL => have := LMc24.out; omega); intro v275 w28 ho hb hg hat; rw [← Ny274.out] at ho; have n0_ := Aside0.mk (Kd.S_after (ok := (fun k_ => some k_ ≠ (.slice Ao29 y271.length co29 : Value).ownBlock)) (by (with_reducible repeat (first | apply Kd.S_alloc | apply Kd.S_drewN | apply Kd.S_drew)); exact Kd.S_mono HO_38.out (fun _ hk => ⟨hk.2, hk.1⟩)) hg hat); have n1_ := Aside0.mk (Kd.R_after (ok := (fun k_ => some k_ ≠ (.slice (some ad267) t264.length co19 : Value).ownBlock ∧ some k_ ≠ (.slice Ao29 y271.length co29 : Value).ownBlock)) (by (with_reducible repeat (first | apply Kd.R_alloc | apply Kd.R_drewN | apply Kd.R_drew)); exact Kd.R_mono HL267_0.out (fun _ hk => ⟨⟨hk.1.2, hk.2⟩, hk.1.1⟩)) hg hat); have n2_ := Aside0.mk (hb); have n3_ := Aside0.mk (ho); clear HO_38; clear HL267_0; clear HB; clear HO_7; clear HO273; have HO_38 := n0_; have HL267_0 := n1_; have HB := n2_; have HO276 := n3_; clear n0_ n1_ n2_ n3_; clear ho hb hg hat))
                     go_roundg k3
                     case measure => have := HK1.out; have := HJ13.out; have := HK3.out; omega
                     case rel => exact ⟨(y274), (wrap64 (x40_3 + 1)), (by first | rfl | (simp; done) | (simp [*]; done)), H', ⟨by have := HK1.out; have := HJ13.out; have := HK3.out; omega⟩, ⟨by (with_reducible repeat (first | apply Kd.S_alloc | apply Kd.S_drewN | apply Kd.S_drew)); exact HO276.out⟩, ⟨by (with_reducible repeat (first | apply Kd.S_alloc | apply Kd.S_drewN | apply Kd.S_drew)); exact Kd.S_mono HO_38.out (fun _ hk => hk.2)⟩, ⟨by repeat (first | (with_reducible first | exact HB.out | apply below_alloc | apply pw_below_drewN | apply below_drew1) | exact HB.out)⟩⟩
                   · rw [if_neg c24] at H
                     exact absurd H (by simp)
                 · rw [if_neg c23] at H
                   exact absurd H (by simp)
               · rw [if_neg c22] at H
                 exact absurd H (by simp)
             · rw [if_neg c21] at H
               exact absurd H (by simp)
           · rw [if_neg c20] at H
             have c20b0 : decide (x40_3 < (t264.length : Int)) = false := decide_eq_false c20
             clear c20
             have H' := Aside0.mk H
             clear H
             go_wp2
             go_roundg k3
             case measure => have := HK1.out; have := HJ13.out; have := HK3.out; omega
             case rel => exact ⟨(x7_3), (wrap64 (x8_1 - 1)), (by first | rfl | (simp; done) | (simp [*]; done)), H', ⟨by have := HK1.out; have := HJ13.out; have := HK3.out; omega⟩, ⟨by (with_reducible repeat (first | apply Kd.S_alloc | apply Kd.S_drewN | apply Kd.S_drew)); exact Kd.S_mono HO_7.out (fun _ hk => trivial)⟩, ⟨by repeat (first | (with_reducible first | exact HB.out | apply below_alloc | apply pw_below_drewN | apply below_drew1) | exact HB.out)⟩⟩
       · replace c16 := Bool.eq_false_iff.mpr c16
         subst c16
         have H1 : (some x7_1) = some r := by rw [if_neg (show ¬ (false = true) by decide)] at H; exact H
         clear H
         have H := H1
         clear H1
         obtain rfl := Option.some.inj H
         go_wp2
         go_ret
         exact ⟨_, by first | rfl | (simp [errW_none, errW_some] <;> rfl) | (simp only [← hji11]; first | rfl | (simp [errW_none, errW_some] <;> rfl)) | (simp [*, errW_none, errW_some] <;> rfl), by (with_reducible repeat (first | apply Kd.S_alloc | apply Kd.S_drewN | apply Kd.S_drew)); exact HO_7.out, by repeat (first | (with_reducible first | exact HB.out | apply below_alloc | apply pw_below_drewN | apply below_drew1) | exact HB.out)⟩

end Go.Proofs.Ytdkimdlbjeobiaa.A

/- A world in which one elder block alone may have changed. -/
namespace Go.Proofs.Ytdkimdlbjeobiaa.A
open Go.RowKit Go.Proofs.YtdkimdlbjeobiaaW.PrintWords Go.Proofs.YtdkimdlbjeobiaaW.PrintLast Go.Proofs.YtdkimdlbjeobiaaW.PrintMore
attribute [local go_sem] max2_int min2_int max_two min_two max_three min_three max_four min_four
set_option linter.unusedVariables false
set_option linter.unusedSimpArgs false

def GB (w W : World) (g : Nat) : Prop := w.grownBy W (some g)
theorem gb_refl (w : World) (g : Nat) : GB w w g := World.grownBy.refl w _
theorem gb_trans {w W W' : World} {g : Nat} (h : GB w W g) (k : GB W W' g) : GB w W' g := ⟨k.os.trans h.os, k.tape.trans h.tape, k.output.trans h.output, Nat.le_trans h.size k.size, fun i hi hne => (k.block i (Nat.lt_of_lt_of_le hi h.size) hne).trans (h.block i hi hne)⟩
theorem gb_below {W W' : World} {g : Nat} (h : Below W.heap.size W W') : GB W W' g := ⟨h.os, h.tape, h.output, h.size, fun i hi _ => h.block i hi⟩
theorem below_gb {w W W' : World} {g : Nat} (h : Below w.heap.size w W) (k : GB W W' g) (hg : w.heap.size ≤ g) : Below w.heap.size w W' := ⟨k.os.trans h.os, k.tape.trans h.tape, k.output.trans h.output, Nat.le_trans h.size k.size, fun i hi => (k.block i (Nat.lt_of_lt_of_le hi h.size) (by intro e; injection e with e; omega)).trans (h.block i hi)⟩
theorem gb_set0 (W : World) (g i : Nat) (u : Value) : GB W (W.setCell ⟨g, i, none⟩ u) g := ⟨rfl, rfl, rfl, by simp, fun k hk hne => Below.heap_setCell W ⟨g, i, none⟩ u k (by intro e; exact hne (congrArg some e))⟩
end Go.Proofs.Ytdkimdlbjeobiaa.A

/- Rows of rows from which some have been taken out: what is left lies apart as before. -/
namespace Go.Proofs.Ytdkimdlbjeobiaa.A
open Go.RowKit Go.Proofs.YtdkimdlbjeobiaaW.PrintWords Go.Proofs.YtdkimdlbjeobiaaW.PrintLast Go.Proofs.YtdkimdlbjeobiaaW.PrintMore
attribute [local go_sem] max2_int min2_int max_two min_two max_three min_three max_four min_four
set_option linter.unusedVariables false
set_option linter.unusedSimpArgs false

open Go.Lib
def keptL {α : Type} [Inhabited α] (kp : Nat → Bool) (xs : List α) : List α := ((List.range xs.length).filter kp).map fun j => xs[j]!
theorem keptL_length {α : Type} [Inhabited α] (kp : Nat → Bool) (xs : List α) (cur : Array Value) : (keptL kp xs).length = (keptUpTo kp cur xs.length).length := by simp [keptL, keptUpTo]
theorem idx_at {l : List Nat} (h : l.Nodup) {q : Nat} (hq : q < l.length) : l.idxOf l[q] = q := by
 induction l generalizing q with
 | nil => simp at hq
 | cons a l ih =>
  cases q with
  | zero => simp
  | succ q =>
   have hn := List.nodup_cons.1 h
   have hq' : q < l.length := by simpa using hq
   have hne : ¬ a = l[q] := fun e => hn.1 (by rw [e]; exact List.getElem_mem hq')
   have hb : (a == l[q]) = false := beq_eq_false_iff_ne.2 hne
   rw [List.getElem_cons_succ, List.idxOf_cons, hb, cond_false, ih hn.2 hq']
theorem S_kept_rows {α : Type} [Inhabited α] {d : Kd α} (hd1 : d.sz = 1) {e : Nat} {w w' : World} {base : Nat} {ok : Nat → Prop} {blk cap : Nat} {xs : List α} {kp : Nat → Bool} {cur cur' : Array Value}
 (hS : Kd.S d e w base ok (.slice (some ⟨blk, 0, none⟩) xs.length cap) xs) (hheap : w.heap[blk]? = some (.cells cur e (0, 0))) (hG : GB w w' blk) (hheap' : w'.heap[blk]? = some (.cells cur' e (0, 0))) (hsz : cur'.size = cur.size)
 (hlow : ∀ j, j < (keptUpTo kp cur xs.length).length → (keptUpTo kp cur xs.length)[j]? = some cur'[j]!) :
 Kd.S d e w' base ok (.slice (some ⟨blk, 0, none⟩) (keptL kp xs).length cap) (keptL kp xs) := by
 obtain ⟨f, h0, inner, ho, hr⟩ := hS
 have hm : (keptL kp xs).length = (keptUpTo kp cur xs.length).length := keptL_length kp xs cur
 have hidx : ((List.range xs.length).filter kp).Nodup := List.Pairwise.filter _ List.nodup_range
 have hmle : (keptL kp xs).length ≤ xs.length := by
  unfold keptL
  rw [List.length_map]
  exact Nat.le_trans (List.length_filter_le _ _) (by simp)
 rw [List.length_zipIdx] at ho
 obtain ⟨hil, hown⟩ := ho
 have hsz1 : (Kd.tag f d).sz = 1 := hd1
 rw [hsz1, Nat.mul_one] at hil
 rcases hown with ⟨he, _⟩ | ⟨g, cap2, cur2, he, hb, hh, hn, hc, hcs, htk⟩
 · cases he
 injection he with e1 e2 e3
 injection e1 with e1
 injection e1 with e1 _ _
 subst e1
 subst e3
 rw [hheap] at hh
 injection hh with hh
 injection hh with hh1 _ _
 subst hh1
 rw [hsz1, Nat.mul_one] at hcs htk
 refine ⟨fun b => ((List.range xs.length).filter kp).idxOf (f b), h0, keptUpTo kp cur xs.length, ⟨?_, .inr ⟨blk, cap, cur', by rw [List.length_zipIdx], hb, hheap', ?_, hc, ?_, ?_⟩⟩, ?_, ?_⟩
 · rw [List.length_zipIdx, hm]
   show _ = _ * d.sz
   rw [hd1, Nat.mul_one]
 · rw [List.length_zipIdx]
   omega
 · show _ = _ * d.sz
   rw [hd1, Nat.mul_one, hsz, hcs]
 · rw [List.length_zipIdx]
   show List.take ((keptL kp xs).length * d.sz) _ = _
   rw [hd1, Nat.mul_one, hm]
   apply List.ext_getElem?
   intro j
   by_cases hj : j < (keptUpTo kp cur xs.length).length
   · rw [List.getElem?_take, if_pos hj, hlow j hj, getElem!_pos cur' j (by omega), Array.getElem?_toList, Array.getElem?_eq_getElem (by omega)]
   · rw [List.getElem?_take, if_neg hj, List.getElem?_eq_none (by omega)]
 · rw [List.length_zipIdx, hm]
   show _ = _ * d.sz
   rw [hd1, Nat.mul_one]
 · intro q p hq
   rw [List.getElem?_zipIdx, Nat.zero_add] at hq
   obtain ⟨x, hx, rfl⟩ := Option.map_eq_some_iff.1 hq
   obtain ⟨hql, hxe⟩ := List.getElem?_eq_some_iff.1 hx
   have hqi : q < ((List.range xs.length).filter kp).length := by
    unfold keptL at hql
    rwa [List.length_map] at hql
   obtain ⟨j, hje⟩ : ∃ j, j = ((List.range xs.length).filter kp)[q] := ⟨_, rfl⟩
   have hjm : j ∈ (List.range xs.length).filter kp := by rw [hje]; exact List.getElem_mem hqi
   have hjn : j < xs.length := List.mem_range.1 (List.mem_filter.1 hjm).1
   have hxj : x = xs[j] := by
    rw [← hxe]
    simp only [keptL, List.getElem_map]
    rw [← hje, getElem!_pos xs j hjn]
   have hM := hr.2 j (xs[j], j) (Kd.zip_at (List.getElem?_eq_getElem hjn))
   rw [hsz1, Nat.mul_one] at hM
   have hcell : (inner.drop j).take 1 = [cur[j]!] := by
    rw [← htk, List.drop_take, List.take_take, Nat.min_eq_left (by omega)]
    have : j < cur.toList.length := by rw [Array.length_toList]; omega
    rw [List.drop_eq_getElem_cons this, List.take_succ_cons, List.take_zero, getElem!_pos cur j (by simpa using this), Array.getElem_toList]
   have hcell' : ((keptUpTo kp cur xs.length).drop q).take 1 = [cur[j]!] := by
    have hql' : q < (keptUpTo kp cur xs.length).length := by rw [← hm]; exact hql
    rw [List.drop_eq_getElem_cons hql', List.take_succ_cons, List.take_zero]
    congr 1
    simp only [keptUpTo, List.getElem_map]
    rw [← hje]
   rw [hcell] at hM
   show (Kd.tag _ d).M w' base _ (x, q) (((keptUpTo kp cur xs.length).drop (q * (Kd.tag _ d).sz)).take (Kd.tag _ d).sz)
   have hs2 : ∀ f', (Kd.tag f' d).sz = 1 := fun _ => hd1
   rw [hs2, Nat.mul_one, hcell', hxj]
   have hM2 : d.M w base (fun k => (ok k ∧ some k ≠ (Value.slice (some ⟨blk, 0, none⟩) xs.length cap).ownBlock) ∧ f k = j) xs[j] [cur[j]!] := hM
   have hM3 := Kd.M_step (w1 := w') hM2 (fun k hk hlt => hG.block k hlt hk.1.2)
   exact d.M_mono (fun k hk => ⟨hk.1, by show List.idxOf (f k) _ = q; rw [hk.2, hje, idx_at hidx hqi]⟩) hM3
end Go.Proofs.Ytdkimdlbjeobiaa.A

/- slices.IndexFunc, ContainsFunc over rows with a function that makes memory; slices.DeleteFunc over rows. -/
namespace Go.Proofs.Ytdkimdlbjeobiaa.A
open Go.RowKit Go.Proofs.YtdkimdlbjeobiaaW.PrintWords Go.Proofs.YtdkimdlbjeobiaaW.PrintLast Go.Proofs.YtdkimdlbjeobiaaW.PrintMore
attribute [local go_sem] max2_int min2_int max_two min_two max_three min_three max_four min_four
set_option linter.unusedVariables false
set_option linter.unusedSimpArgs false

open Go.Shelf Go.Lib
set_option maxHeartbeats 2000000 in
theorem anyIdxB {P : Program} {ρ : Ren} (L : SlLaysH.n6 P ρ) (ad : Addr) (n c : Nat) (vs : Nat → Value) (ps : Nat → Bool) (g : Nat) (lb : Array Value) (w : World) (eg : ∀ args w, (callFunc g args).run P w = .ok (.enter g args) w) (hbig : n ≤ 9223372036854775807)
 (hcell : ∀ j, j < n → w.cell? (ad.add j) = some (vs j)) (hcall : ∀ j, j < n → ∀ W, Below w.heap.size w W → Calls P g (#[vs j] ++ lb) W fun e w' => e = .returned (.bool (ps j)) ∧ Below W.heap.size W w') :
 Calls P (ρ.f 6) #[.slice (some ad) n c, .func (.func g) #[] lb] w fun e w' => ∃ i : Int, e = .returned (.int .i64 i) ∧ ((i = -1 ∧ ∀ j, j < n → ps j = false) ∨ ∃ k : Nat, k < n ∧ i = (k : Int) ∧ ps k = true ∧ ∀ j, j < k → ps j = false) ∧ Below w.heap.size w w' := by
 have mixed := L.mixed; have t0 := L.t0; have a0 := L.a0; have z0 := L.z0; have v0 := L.v0; have t3 := L.t3; have a3 := L.a3; have z3 := L.z3; have v3 := L.v3; have t4 := L.t4; have a4 := L.a4; have z4 := L.z4; have v4 := L.v4; have t22 := L.t22; have a22 := L.a22; have z22 := L.z22; have v22 := L.v22; have a23 := L.a23; have z23 := L.z23; have t25 := L.t25; have a25 := L.a25; have z25 := L.z25; have v25 := L.v25
 have HC := Aside0.mk hcell
 have HF := Aside0.mk hcall
 have HB := Aside0.mk (Below.refl w.heap.size w)
 clear hcell hcall
 obtain ⟨_, _, FG⟩ := L.f6
 go_enter FG, SlBodyH.n6_ntmps ρ
 go_wp2
 go_loopg [5, 8] n (fun gg _ s8 wr => ∃ kk : Nat, kk ≤ n ∧ n - kk ≤ gg ∧ s8 = .int .i64 kk ∧ Aside0 (Below w.heap.size w wr) ∧ Aside0 (∀ j, j < kk → ps j = false))
 case atStart => exact ⟨0, Nat.zero_le _, by omega, rfl, ⟨by repeat (first | (with_reducible first | exact HB.out | apply below_alloc | apply pw_below_drewN | apply below_drew1) | exact HB.out)⟩, ⟨fun j hj => absurd hj (Nat.not_lt_zero _)⟩⟩
 case round =>
  clear HB
  obtain ⟨kk, hkk, hg, rfl, HB, HA⟩ := hrel
  by_cases hlt : kk < n
  · have hltz : (kk : Int) < (n : Int) := by omega
    have hc0 := HC.out kk hlt
    have hce := (HB.out.cell (World.block_lt_of_cell? w _ hc0)).trans hc0
    have hca := HF.out kk hlt wr HB.out
    clear hc0
    generalize vs kk = v at hce hca
    cases hq : ps kk with
    | true =>
     rw [hq] at hca
     go_wp2_with (go_at_fn g; refine hca.mono ?_; rintro e w' ⟨rfl, hb⟩; have HB2 := Aside0.mk (below_step HB.out hb); clear hb)
     go_ret
     exact ⟨_, rfl, .inr ⟨kk, hlt, rfl, hq, HA.out⟩, HB2.out⟩
    | false =>
     rw [hq] at hca
     go_wp2_with (go_at_fn g; refine hca.mono ?_; rintro e w' ⟨rfl, hb⟩; have HB2 := Aside0.mk (below_step HB.out hb); clear hb)
     go_roundg (n - (kk + 1))
     case measure => omega
     case rel =>
      refine ⟨kk + 1, by omega, by omega, by go_num, ⟨HB2.out⟩, ⟨fun j hj => ?_⟩⟩
      by_cases e : j = kk
      · subst e
        exact hq
      · exact HA.out j (by omega)
  · have hltz : ¬ (kk : Int) < (n : Int) := by omega
    have : kk = n := by omega
    subst this
    go_wp2
    go_ret
    exact ⟨_, rfl, .inl ⟨rfl, HA.out⟩, HB.out⟩
set_option maxHeartbeats 2000000 in
theorem anyHasB {P : Program} {ρ : Ren} (L : SlLaysH.n8 P ρ) (ad : Addr) (n c : Nat) (vs : Nat → Value) (ps : Nat → Bool) (g : Nat) (lb : Array Value) (w : World) (eg : ∀ args w, (callFunc g args).run P w = .ok (.enter g args) w) (hbig : n ≤ 9223372036854775807)
 (hcell : ∀ j, j < n → w.cell? (ad.add j) = some (vs j)) (hcall : ∀ j, j < n → ∀ W, Below w.heap.size w W → Calls P g (#[vs j] ++ lb) W fun e w' => e = .returned (.bool (ps j)) ∧ Below W.heap.size W w') :
 Calls P (ρ.f 8) #[.slice (some ad) n c, .func (.func g) #[] lb] w fun e w' => ∃ r : Bool, e = .returned (.bool r) ∧ (r = true ↔ ∃ j, j < n ∧ ps j = true) ∧ Below w.heap.size w w' := by
 have mixed := L.mixed; have t0 := L.t0; have a0 := L.a0; have z0 := L.z0; have v0 := L.v0; have t3 := L.t3; have a3 := L.a3; have z3 := L.z3; have v3 := L.v3; have t4 := L.t4; have a4 := L.a4; have z4 := L.z4; have v4 := L.v4; have t22 := L.t22; have a22 := L.a22; have z22 := L.z22; have v22 := L.v22; have a23 := L.a23; have z23 := L.z23; have t25 := L.t25; have a25 := L.a25; have z25 := L.z25; have v25 := L.v25
 have e6 : ∀ args w, (callFunc (ρ.f 6) args).run P w = .ok (.enter (ρ.f 6) args) w := L.f6.enters rfl
 have HC := Aside0.mk hcell
 have HF := Aside0.mk hcall
 clear hcell hcall
 obtain ⟨_, _, FG⟩ := L.f8
 go_enter FG, SlBodyH.n8_ntmps ρ
 go_wp2_with (go_at_fn (ρ.f 6); refine (anyIdxB { L with } ad n c vs ps g lb _ eg hbig HC.out HF.out).mono ?_; rintro e w' ⟨i, rfl, hi, hb⟩; have HI := Aside0.mk hi; have HB := Aside0.mk hb; clear hi hb)
 go_ret
 refine ⟨_, rfl, ?_, HB.out⟩
 rw [decide_eq_true_iff]
 rcases HI.out with ⟨rfl, hn⟩ | ⟨k, hk, rfl, hp, _⟩
 · exact ⟨fun h => absurd h (by decide), fun ⟨j, hj, hp⟩ => by rw [hn j hj] at hp; cases hp⟩
 · exact ⟨fun _ => ⟨k, hk, hp⟩, fun _ => by omega⟩
theorem addr0_add (b j : Nat) : (⟨b, 0, none⟩ : Addr).add j = ⟨b, j, none⟩ := by
 unfold Addr.add
 split
 · next h => rw [h]
 · simp
theorem heap_setCells {g : Nat} {t : TypeId} : ∀ (vs : List Value) (o : Nat) (w : World) (cs : Array Value), w.heap[g]? = some (.cells cs t (0, 0)) → ∃ cs', (w.setCells g o vs).heap[g]? = some (.cells cs' t (0, 0)) ∧ cs'.size = cs.size ∧ (∀ j, j < o → cs'[j]! = cs[j]!) ∧ GB w (w.setCells g o vs) g
 | [], o, w, cs, h => ⟨cs, h, rfl, fun _ _ => rfl, gb_refl _ _⟩
 | v :: vs, o, w, cs, h => by
  obtain ⟨cs', h1, h2, h3, h4⟩ := heap_setCells vs (o + 1) (w.setCell ⟨g, o, none⟩ v) _ (blk_set h o v)
  refine ⟨cs', h1, by rw [h2]; simp, fun j hj => ?_, gb_trans (gb_set0 w g o v) h4⟩
  rw [h3 j (by omega)]
  exact Go.Sort.getElem!_set_other cs o j v (by omega)
theorem first_is {kp : Nat → Bool} {k0 n : Nat} {i : Int} (hd : kp k0 = false) (hall : ∀ j, j < k0 → kp j = true) (hk : k0 < n) (h : (i = -1 ∧ ∀ j, j < n → (!kp j) = false) ∨ ∃ k : Nat, k < n ∧ i = (k : Int) ∧ (!kp k) = true ∧ ∀ j, j < k → (!kp j) = false) : i = (k0 : Int) := by
 rcases h with ⟨_, hn⟩ | ⟨k, hkn, rfl, hp, ha⟩
 · have := hn k0 hk
   rw [hd] at this
   cases this
 · have h1 : ¬ k < k0 := fun h => by rw [hall k h] at hp; cases hp
   have h2 : ¬ k0 < k := fun h => by have := ha k0 h; rw [hd] at this; cases this
   omega
theorem none_is {kp : Nat → Bool} {n : Nat} {i : Int} (hall : ∀ j, j < n → kp j = true) (h : (i = -1 ∧ ∀ j, j < n → (!kp j) = false) ∨ ∃ k : Nat, k < n ∧ i = (k : Int) ∧ (!kp k) = true ∧ ∀ j, j < k → (!kp j) = false) : i = -1 := by
 rcases h with ⟨e, _⟩ | ⟨k, hkn, rfl, hp, _⟩
 · exact e
 · rw [hall k hkn] at hp
   cases hp
theorem gb_heap {W W' : World} {blk : Nat} {o : Obj} (hb : Below W.heap.size W W') (h : W.heap[blk]? = some o) : W'.heap[blk]? = some o := (hb.block blk (blk_lt h)).trans h
set_option maxHeartbeats 4000000 in
set_option maxRecDepth 1000000 in
/-- Some rows are taken out of a row of rows: what is left lies in front. -/
theorem delRows {P : Program} {ρ : Ren} (L : SlLaysH.n10 P ρ) (blk n cap : Nat) (et : TypeId) (cur : Array Value) (kp : Nat → Bool) (g : Nat) (lb : Array Value) (w : World) (eg : ∀ args w, (callFunc g args).run P w = .ok (.enter g args) w) (v23 : ∀ w, (zeroValue (ρ.t 23)).run P w = .ok (.slice none 0 0) w)
 (hheap : w.heap[blk]? = some (.cells cur et (0, 0))) (hsz : cur.size = cap) (hn : n ≤ cap) (hcap : cap ≤ 9223372036854775807) (hsl : ∀ j, j < n → ∃ A k c, cur[j]! = .slice A k c)
 (hcall : ∀ j, j < n → ∀ W, GB w W blk → Calls P g (#[cur[j]!] ++ lb) W fun e w' => e = .returned (.bool (!kp j)) ∧ Below W.heap.size W w') :
 Calls P (ρ.f 10) #[.slice (some ⟨blk, 0, none⟩) n cap, .func (.func g) #[] lb] w fun e w' => e = .returned (.slice (some ⟨blk, 0, none⟩) (keptUpTo kp cur n).length cap) ∧ GB w w' blk ∧ ∃ cur', w'.heap[blk]? = some (.cells cur' et (0, 0)) ∧ cur'.size = cap ∧ ∀ j, j < (keptUpTo kp cur n).length → (keptUpTo kp cur n)[j]? = some cur'[j]! := by
 have mixed := L.mixed; have t0 := L.t0; have a0 := L.a0; have z0 := L.z0; have v0 := L.v0; have t3 := L.t3; have a3 := L.a3; have z3 := L.z3; have v3 := L.v3; have t4 := L.t4; have a4 := L.a4; have z4 := L.z4; have v4 := L.v4; have t22 := L.t22; have a22 := L.a22; have z22 := L.z22; have v22 := L.v22; have a23 := L.a23; have z23 := L.z23; have t25 := L.t25; have a25 := L.a25; have z25 := L.z25; have v25 := L.v25
 have e6 : ∀ args w, (callFunc (ρ.f 6) args).run P w = .ok (.enter (ρ.f 6) args) w := L.f6.enters rfl
 have hcl0 : ∀ (A : Option Addr) (k c : Nat), (Value.slice A k c).cells = #[Value.slice A k c] := fun _ _ _ => rfl
 have cellAt : ∀ (W : World) (dk : Array Value), W.heap[blk]? = some (.cells dk et (0, 0)) → dk.size = cap → ∀ j, j < cap → W.cell? ⟨blk, j, none⟩ = some dk[j]! := fun W dk h hs j hj => by
  rw [blk_cell h j, getElem!_pos dk j (by omega), Array.getElem?_eq_getElem (by omega)]
 have hIF := anyIdxB (P := P) (ρ := ρ) { L with } ⟨blk, 0, none⟩ n cap (fun j => cur[j]!) (fun j => !kp j) g lb w eg (by omega) (fun j hj => by
  rw [addr0_add]
  exact cellAt w cur hheap hsz j (by omega)) (fun j hj W hb => hcall j hj W (gb_below hb))
 have HIF := Aside0.mk hIF
 have HC := Aside0.mk hcall
 have HH := Aside0.mk hheap
 have HCA := Aside0.mk cellAt
 have HSL := Aside0.mk hsl
 clear hIF hcall hheap cellAt hsl
 by_cases hany : ∃ k, k < n ∧ kp k = false
 · obtain ⟨k0, hk0, hd0, hall⟩ : ∃ k0, k0 < n ∧ kp k0 = false ∧ ∀ j, j < k0 → kp j = true := by
    obtain ⟨k, hk, hd⟩ := hany
    induction k using Nat.strongRecOn with
    | _ k ih =>
     by_cases h : ∃ j, j < k ∧ kp j = false
     · obtain ⟨j, hj, hdj⟩ := h
       exact ih j hj (by omega) hdj
     · exact ⟨k, hk, hd, fun j hj => by
        cases e : kp j with
        | true => rfl
        | false => exact (h ⟨j, hj, e⟩).elim⟩
   have HALL := Aside0.mk hall
   have HD0 := Aside0.mk hd0
   have hne1 : ((k0 : Int) == -1) = false := beq_eq_false_iff_ne.2 (by omega)
   clear hall hd0 hany
   obtain ⟨_, _, FG⟩ := L.f10
   go_enter FG, SlBodyH.n10_ntmps ρ
   go_wp2_with (go_at_fn (ρ.f 6); refine HIF.out.mono ?_; rintro e w1 ⟨i1, rfl, hi1, hb1⟩; obtain rfl : i1 = (k0 : Int) := first_is HD0.out HALL.out hk0 hi1; have HB1 := Aside0.mk hb1; have HH1 := Aside0.mk (gb_heap hb1 HH.out); clear hi1 hb1)
   go_loopg [5, 6, 7] n (fun gg s5 s6 _ wr => ∃ (i j : Nat) (dk : Array Value), s5 = .int .i64 i ∧ s6 = .int .i64 j ∧ j ≤ n ∧ n - j ≤ gg ∧ i ≤ j ∧ Aside0 (GB w wr blk) ∧ Aside0 (wr.heap[blk]? = some (.cells dk et (0, 0))) ∧ Aside0 (KeptInv kp cur j i dk))
   case atStart => exact ⟨k0, k0 + 1, cur, rfl, by go_num, by omega, by omega, by omega, ⟨gb_below HB1.out⟩, ⟨HH1.out⟩, ⟨KeptInv.start HALL.out HD0.out⟩⟩
   case round =>
    obtain ⟨i, j, dk, rfl, rfl, hjd, hgg, hij0, HG, HW, I2⟩ := hrel
    have hI := I2.out
    have hij := hI.lt
    have hds := hI.size
    by_cases hlt : j < n
    · have hltz : (j : Int) < (n : Int) := by omega
      have cj := HCA.out wr dk HW.out (by omega) j (by omega)
      have ci := HCA.out wr dk HW.out (by omega) i (by omega)
      have fi := blk_frozen HW.out i
      rw [hI.high j (by omega)] at cj
      have hcall := HC.out j hlt wr HG.out
      obtain ⟨Au, ku, cu, hu⟩ := HSL.out j hlt
      rw [hu] at cj hcall
      have C := Aside0.mk hu
      generalize dk[i]! = old at ci
      clear hI hu
      cases hq : kp j with
      | true =>
       rw [hq] at hcall
       go_wp2_with (go_at_fn g; refine hcall.mono ?_; rintro e w' ⟨rfl, hb⟩; have HB2 := Aside0.mk (gb_trans HG.out (gb_below hb)); have HW2 := Aside0.mk (gb_heap hb HW.out); (have ci2 := (hb.cell (p := ⟨blk, i, none⟩) (World.block_lt_of_cell? wr _ ci)).trans ci); (have fi2 := (hb.frozen (p := ⟨blk, i, none⟩) (World.block_lt_of_cell? wr _ ci)).trans fi); (have cj2 := (hb.cell (p := ⟨blk, j, none⟩) (World.block_lt_of_cell? wr _ cj)).trans cj); clear hb)
       go_roundg (n - (j + 1))
       case measure => omega
       case rel => exact ⟨i + 1, j + 1, dk.setIfInBounds i (.slice Au ku cu), by go_num, by go_num, by omega, Nat.le_refl _, by omega, ⟨gb_trans HB2.out (gb_set0 _ blk i _)⟩, ⟨blk_set HW2.out i _⟩, ⟨by have := I2.out.keep (by omega) hq; rwa [C.out] at this⟩⟩
      | false =>
       rw [hq] at hcall
       go_wp2_with (go_at_fn g; refine hcall.mono ?_; rintro e w' ⟨rfl, hb⟩; have HB2 := Aside0.mk (gb_trans HG.out (gb_below hb)); have HW2 := Aside0.mk (gb_heap hb HW.out); clear hb)
       go_roundg (n - (j + 1))
       case measure => omega
       case rel => exact ⟨i, j + 1, dk, rfl, by go_num, by omega, Nat.le_refl _, by omega, ⟨HB2.out⟩, ⟨HW2.out⟩, ⟨I2.out.skip hq⟩⟩
    · obtain rfl : j = n := by omega
      have hltz : ¬ (j : Int) < (j : Int) := by omega
      have hcl : ∀ ty, (Builtin.clear_ #[ρ.t 22] ty #[.slice (some ⟨blk, i, none⟩) (j - i) (cap - i)]).run P wr = .ok (.tuple #[]) (wr.setCells blk i (List.replicate (j - i) (.slice none 0 0))) :=
       fun ty => Lib.run_clear_slice wr _ _ ty _ t22 v23 rfl rfl blk i _ _ (by omega) (fun t ht => by rw [HCA.out wr dk HW.out (by omega) (i + t) (by omega)]; rfl) (fun t ht => blk_frozen HW.out _)
      have HS := Aside0.mk (heap_setCells (List.replicate (j - i) (.slice none 0 0)) i wr dk HW.out)
      have HDS := Aside0.mk hds
      clear hI hds
      go_wp2
      go_ret
      have hI := I2.out
      obtain ⟨cs', h1, h2, h3, h4⟩ := HS.out
      refine ⟨by rw [hI.len]; rfl, gb_trans HG.out h4, cs', h1, by rw [h2, HDS.out, hsz], fun q hq => ?_⟩
      rw [hI.len] at hq
      rw [h3 q (by omega)]
      exact hI.low q hq
 · have hkeep : ∀ j, j < n → kp j = true := fun j hj => by
    cases e : kp j with
    | true => rfl
    | false => exact (hany ⟨j, hj, e⟩).elim
   have e3 : keptUpTo kp cur n = (List.range n).map (cur[·]!) := keptUpTo_all kp cur n hkeep
   have e4 : (keptUpTo kp cur n).length = n := by rw [e3]; simp
   have HKE := Aside0.mk hkeep
   have E3 := Aside0.mk e3
   rw [e4]
   clear hany hkeep e3 e4
   obtain ⟨_, _, FG⟩ := L.f10
   go_enter FG, SlBodyH.n10_ntmps ρ
   go_wp2_with (go_at_fn (ρ.f 6); refine HIF.out.mono ?_; rintro e w1 ⟨i1, rfl, hi1, hb1⟩; obtain rfl : i1 = -1 := none_is HKE.out hi1; have HB1 := Aside0.mk hb1; have HH1 := Aside0.mk (gb_heap hb1 HH.out); clear hi1 hb1)
   go_ret
   refine ⟨rfl, gb_below HB1.out, cur, HH1.out, hsz, fun j hj => ?_⟩
   rw [E3.out, List.getElem?_map, List.getElem?_range hj]
   rfl
end Go.Proofs.Ytdkimdlbjeobiaa.A

/- Words on tables: two reads in line, a table that has been checked and is still the call's own. -/
namespace Go.Proofs.Ytdkimdlbjeobiaa.A
open Go.RowKit Go.Proofs.YtdkimdlbjeobiaaW.PrintWords Go.Proofs.YtdkimdlbjeobiaaW.PrintLast Go.Proofs.YtdkimdlbjeobiaaW.PrintMore
attribute [local go_sem] max2_int min2_int max_two min_two max_three min_three max_four min_four
set_option linter.unusedVariables false
set_option linter.unusedSimpArgs false

theorem tab_bx {W W' : World} {B : Nat} {v : Value} (hb : Below W.heap.size W W') (h : W.cell? ⟨B, 0, none⟩ = some v) (hB : B < W.heap.size) : W'.cell? ⟨B, 0, none⟩ = some v := (hb.cell (p := ⟨B, 0, none⟩) hB).trans h
end Go.Proofs.Ytdkimdlbjeobiaa.A

/-
  DERIVED: THE SHELF's CONTRACTS AT THIS DUMP, IN PLAIN WORDS (tools/lay-plain.mjs out of 'YtdkimdlbjeobiaaShelfD.lean', which tools/lay-shelf.mjs wrote): THE SAME DECLARATIONS UNDER THE SAME NAMES: 'import', 'namespace', 'open', 'def', 'theorem' AND NOTHING ELSE: no command of the shelf's: FOR A HAND-IN. Each laying: the table of numbers ('.._ren') and one theorem, a field a fact of the dump's own or the kernel's comparison; each contract: ONE APPLICATION.
-/
namespace Go.Proofs
open Go.Shelf
def Try.delL_ren : Go.Shelf.Ren := ⟨fun | 10 => 73 | 6 => 75 | n => n, fun | 22 => 23 | 23 => 22 | 25 => 31 | 3 => 3 | 4 => 4 | 0 => 0 | n => n, fun | n => n⟩
theorem Try.delL : Go.Proofs.SlLaysH.n10 Try.prog Try.delL_ren := {
 mixed := by kernel_rfl
 f6 := ⟨Try.f75.name, by decide, Try.func75.trans (congrArg some (by kernel_rfl))⟩
 f10 := ⟨Try.f73.name, by decide, Try.func73.trans (congrArg some (by kernel_rfl))⟩
 t0 := Try.underlying0
 a0 := Try.isAgg0
 z0 := Try.sizeOf0
 v0 := Try.zeroValue0
 t3 := Try.underlying3
 a3 := Try.isAgg3
 z3 := Try.sizeOf3
 v3 := Try.zeroValue3
 t4 := Try.underlying4
 a4 := Try.isAgg4
 z4 := Try.sizeOf4
 v4 := Try.zeroValue4
 t22 := Try.underlying23
 a22 := Try.isAgg23
 z22 := Try.sizeOf23
 v22 := Try.zeroValue23
 a23 := Try.isAgg22
 z23 := Try.sizeOf22
 t25 := Try.underlying31
 a25 := Try.isAgg31
 z25 := Try.sizeOf31
 v25 := Try.zeroValue31 }
end Go.Proofs

/- below: the rankings that a list majorizes: slices.DeleteFunc takes the others out in place. -/
namespace Go.Proofs.Ytdkimdlbjeobiaa.A
open Go.RowKit Go.Proofs.YtdkimdlbjeobiaaW.PrintWords Go.Proofs.YtdkimdlbjeobiaaW.PrintLast Go.Proofs.YtdkimdlbjeobiaaW.PrintMore
attribute [local go_sem] max2_int min2_int max_two min_two max_three min_three max_four min_four
set_option linter.unusedVariables false
set_option linter.unusedSimpArgs false

def majAll (k : Nat) (l0 : List Int) (xs : List (List Int)) : Bool := xs.all fun x => (impl_isMajorized.f k x l0).isSome
def majKept (k : Nat) (l0 : List Int) (xs : List (List Int)) : List (List Int) := xs.filter fun x => impl_isMajorized.f k x l0 == some true
def impl_below.f (k : Nat) (l0 : List Int) : Option (List (List Int)) := (impl_total.f k l0).bind fun s => (impl_rankings.f k (l0.length : Int) s s).bind fun rs => if 0 < rs.length ∧ majAll k l0 rs = true then some (majKept k l0 rs) else none
theorem S_cells {e i : Nat} {w : World} {base : Nat} {ok : Nat → Prop} {v : Value} {xs : List (List Int)} (hS : Kd.S (Kd.slice i (Kd.int .i64)) e w base ok v xs) (hn : 0 < xs.length) :
 ∃ (blk cap : Nat) (cur : Array Value), v = .slice (some ⟨blk, 0, none⟩) xs.length cap ∧ base ≤ blk ∧ w.heap[blk]? = some (.cells cur e (0, 0)) ∧ cur.size = cap ∧ xs.length ≤ cap ∧ cap ≤ 9223372036854775807 ∧
  ∀ j, j < xs.length → ∃ A c, cur[j]! = .slice A (xs[j]!).length c ∧ (xs[j]!).length ≤ c ∧ ∀ W, GB w W blk → Kd.C (Kd.int .i64) W A (xs[j]!).length (xs[j]!) := by
 obtain ⟨f, h0, inner, ho, hr⟩ := hS
 rw [List.length_zipIdx] at ho
 obtain ⟨hil, hown⟩ := ho
 have hsz1 : (Kd.tag f (Kd.slice i (Kd.int .i64))).sz = 1 := rfl
 rw [hsz1, Nat.mul_one] at hil
 rcases hown with ⟨_, hz⟩ | ⟨blk, cap, cur, rfl, hb, hh, hnc, hc, hcs, htk⟩
 · omega
 rw [hsz1, Nat.mul_one] at hcs htk
 refine ⟨blk, cap, cur, rfl, hb, hh, hcs, hnc, by unfold maxLen at hc; omega, fun j hj => ?_⟩
 have hM := hr.2 j (xs[j], j) (Kd.zip_at (List.getElem?_eq_getElem hj))
 rw [hsz1, Nat.mul_one] at hM
 have hcell : (inner.drop j).take 1 = [cur[j]!] := by
  rw [← htk, List.drop_take, List.take_take, Nat.min_eq_left (by omega)]
  have : j < cur.toList.length := by rw [Array.length_toList]; omega
  rw [List.drop_eq_getElem_cons this, List.take_succ_cons, List.take_zero, getElem!_pos cur j (by simpa using this), Array.getElem_toList]
 rw [hcell] at hM
 have hM2 : (Kd.slice i (Kd.int .i64)).M w base (fun k => (ok k ∧ some k ≠ (Value.slice (some ⟨blk, 0, none⟩) xs.length cap).ownBlock) ∧ f k = j) xs[j] [cur[j]!] := hM
 obtain ⟨v, hv, hR⟩ := hM2
 obtain ⟨A, c, hA, hl, _⟩ := Kd.R_reads hR
 have e : cur[j]! = v := by simpa using hv
 rw [getElem!_pos xs j hj]
 refine ⟨A, c, by rw [e, hA], hl, fun W hG => ?_⟩
 have hR2 := Kd.R_step (w1 := W) hR (fun k hk hlt => hG.block k hlt hk.1.2)
 rw [hA] at hR2
 exact (Kd.R_reads' hR2).2.2
theorem gb_cell {w W : World} {g : Nat} {p : Addr} {v : Value} (h : GB w W g) (hc : w.cell? p = some v) (hne : p.block ≠ g) : W.cell? p = some v := by
 have hlt := World.block_lt_of_cell? w _ hc
 have hb := h.block p.block hlt (by intro e; injection e with e; exact hne e)
 unfold World.cell? at *
 rw [hb]
 exact hc
theorem keptL_filter {α : Type} [Inhabited α] (p : α → Bool) (xs : List α) : keptL (fun j => p xs[j]!) xs = xs.filter p := by
 unfold keptL
 have e : ((List.range xs.length).map fun j => xs[j]!) = xs := by
  apply List.ext_getElem
  · simp
  · intro i h1 h2
    rw [List.getElem_map, List.getElem_range, getElem!_pos xs i h2]
 have := List.filter_map (p := p) (f := fun j => xs[j]!) (l := List.range xs.length)
 rw [e] at this
 rw [this]
 rfl
set_option maxHeartbeats 2000000 in
theorem below_cell (k : Nat) (l0 x : List Int) (t : Bool) (A0 A : Option Addr) (c0 c B : Nat) (W : World) (h0 : W.cell? ⟨B, 0, none⟩ = some (.slice A0 l0.length c0)) (hr0 : Kd.C (Kd.int .i64) W A0 l0.length l0) (hc0 : l0.length ≤ c0) (hr : Kd.C (Kd.int .i64) W A x.length x) (hc : x.length ≤ c) (h : impl_isMajorized.f k x l0 = some t) :
 Calls Try.prog 74 (#[.slice A x.length c] ++ #[.pointer (some ⟨B, 0, none⟩)]) W fun e w' => e = .returned (.bool (!t)) ∧ Below W.heap.size W w' := by
 have HR0 := Aside0.mk hr0
 have HC0 := Aside0.mk hc0
 have HR := Aside0.mk hr
 have HC := Aside0.mk hc
 have HK := Aside0.mk h
 clear hr0 hc0 hr hc h
 show Calls Try.prog 74 #[.slice A x.length c, .pointer (some ⟨B, 0, none⟩)] W _
 go_enter Try.func74, Try.ntmps74
 go_wp2_with (go_at_call 43; (refine (impl_isMajorized.calls k A c x A0 c0 l0 t _ ?side1 ?side2 ?side3 ?side4 HK.out).mono ?_); (case side1 => first | exact HR.out | exact Kd.C_drewN HR.out _); (case side2 => exact HC.out); (case side3 => first | exact HR0.out | exact Kd.C_drewN HR0.out _); (case side4 => exact HC0.out); rintro e w' ⟨rfl, hb⟩; have HB := Aside0.mk hb; clear hb)
 go_ret
 exact ⟨by cases t <;> rfl, HB.out⟩
set_option maxHeartbeats 4000000 in
set_option maxRecDepth 100000 in
theorem below_del (k : Nat) (l0 : List Int) (A0 : Option Addr) (c0 B base : Nat) (rs : List (List Int)) (v : Value) (w : World) (hB : w.cell? ⟨B, 0, none⟩ = some (.slice A0 l0.length c0)) (hlt : B < base) (hr0 : Kd.C (Kd.int .i64) w A0 l0.length l0) (hfoot : ∀ k, base ≤ k → ∀ W, GB w W k → Kd.C (Kd.int .i64) W A0 l0.length l0) (hc0 : l0.length ≤ c0) (hn : 0 < rs.length) (hall : majAll k l0 rs = true)
 (hS : Kd.S (Kd.slice 3 (Kd.int .i64)) 22 w base (fun _ => True) v rs) :
 Calls Try.prog 73 #[v, .func (.func 74) #[] #[.pointer (some ⟨B, 0, none⟩)]] w fun e w' => ∃ v' blk, e = .returned v' ∧ base ≤ blk ∧ Kd.S (Kd.slice 3 (Kd.int .i64)) 22 w' base (fun _ => True) v' (majKept k l0 rs) ∧ GB w w' blk := by
 have hS0 := hS
 obtain ⟨blk, cap, cur, rfl, hbb, hh, hsz, hnc, hcm, hrow⟩ := S_cells hS hn
 have eg : ∀ args w, (callFunc 74 args).run Try.prog w = .ok (.enter 74 args) w := fun args w => enters_ Try.func74 (by kernel_rfl) rfl args w
 have hkp : ∀ j, j < rs.length → impl_isMajorized.f k (rs[j]!) l0 = some (impl_isMajorized.f k (rs[j]!) l0 == some true) := fun j hj => by
  have := List.all_eq_true.1 hall (rs[j]!) (by rw [getElem!_pos rs j hj]; exact List.getElem_mem hj)
  obtain ⟨b, hb⟩ := Option.isSome_iff_exists.1 this
  rw [hb]
  cases b <;> rfl
 refine (delRows Try.delL blk rs.length cap 22 cur (fun j => impl_isMajorized.f k (rs[j]!) l0 == some true) 74 #[.pointer (some ⟨B, 0, none⟩)] w eg (fun w => Try.zeroValue22 w) hh hsz hnc hcm (fun j hj => ?_) (fun j hj W hG => ?_)).mono ?_
 · obtain ⟨A, c, h, _⟩ := hrow j hj
   exact ⟨A, _, c, h⟩
 · obtain ⟨A, c, h, hl, hC⟩ := hrow j hj
   rw [h]
   exact below_cell k l0 (rs[j]!) _ A0 A c0 c B W (gb_cell hG hB (by show B ≠ blk; omega)) (hfoot blk hbb W hG) hc0 (hC W hG) hl (hkp j hj)
 · rintro e w' ⟨rfl, hG, cur', hh', hs', hl'⟩
   have hk := S_kept_rows (d := Kd.slice 3 (Kd.int .i64)) rfl (kp := fun j => impl_isMajorized.f k (rs[j]!) l0 == some true) hS0 hh hG hh' (by rw [hs', hsz]) hl'
   rw [keptL_length _ rs cur] at hk
   rw [keptL_filter (fun x => impl_isMajorized.f k x l0 == some true) rs] at hk
   exact ⟨_, blk, rfl, hbb, hk, hG⟩
set_option maxHeartbeats 4000000 in
set_option maxRecDepth 100000 in
theorem impl_below.calls (k : Nat) (A0 : Option Addr) (c0 : Nat) (l0 : List Int) (r : List (List Int)) (w : World) (hr0 : Kd.C (Kd.int .i64) w A0 l0.length l0) (hc0 : l0.length ≤ c0) (h : impl_below.f k l0 = some r) :
 Calls Try.prog 40 #[.slice A0 l0.length c0] w fun e w' => ∃ v0_ : Value, e = .returned (v0_) ∧ Kd.S (Kd.slice 3 (Kd.int .i64)) 22 w' w.heap.size (fun _ => True) v0_ r ∧ Below w.heap.size w w' := by
 unfold impl_below.f at h
 obtain ⟨s, ht, h⟩ := Option.bind_eq_some_iff.mp h
 obtain ⟨rs, hrk, h⟩ := Option.bind_eq_some_iff.mp h
 split at h
 next hc =>
  obtain ⟨hn, hall⟩ := hc
  obtain rfl := Option.some.inj h
  have HT := Aside0.mk ht
  have HRK := Aside0.mk hrk
  have HN := Aside0.mk hn
  have HALL := Aside0.mk hall
  have HR0 := Aside0.mk hr0
  have HC0 := Aside0.mk hc0
  have HB := Aside0.mk (Below.refl w.heap.size w)
  clear hr0 hc0 ht hrk hn hall h
  go_enter Try.func40, Try.ntmps40
  go_wp2
  go_region_held3 (fun w' => w'.cell? ⟨w.heap.size, 0, none⟩ = some (.slice A0 l0.length c0)) (first | exact x0 | exact x9 | (simp [go_sem]; done))
   (first | (go_at_call 39; (refine (impl_total.calls k A0 c0 l0 s _ ?side1 ?side2 HT.out).mono ?_); (case side1 => exact Kd.C_below HR0.out (by repeat (first | (with_reducible first | exact HB.out | apply below_alloc | apply pw_below_drewN | apply below_drew1) | exact HB.out))); (case side2 => exact HC0.out); rintro e w1 ⟨rfl, ⟨m1, rfl⟩⟩) | (go_at_call 65; (refine (impl_rankings.calls k (l0.length : Int) s s rs _ HRK.out).mono ?_); rintro e w2 ⟨v2, rfl, ho, hb⟩; have HB2 := Aside0.mk (below_step (by repeat (first | (with_reducible first | exact HB.out | apply below_alloc | apply pw_below_drewN | apply below_drew1) | exact HB.out)) hb); have x0 := tab_bx hb (B := w.heap.size) (v := .slice A0 l0.length c0) (by simp [go_sem]) (by first | (simp; done) | (simp; omega)); have HO := Aside0.mk (show Kd.S (Kd.slice 3 (Kd.int .i64)) 22 w2 (w.heap.size + 1) (fun _ => True) v2 rs from Kd.S_lower ho (by first | (simp; done) | (simp; omega))); clear HB hb ho; have HB := HB2; clear HB2; obtain ⟨Au, cu, eu⟩ := Kd.S_slice HO.out; subst eu) | (go_at_call 73; (refine (below_del k l0 A0 c0 w.heap.size (w.heap.size + 1) rs _ _ x0 (by omega) ?side1 ?side2 HC0.out HN.out HALL.out HO.out).mono ?_); (case side1 => exact Kd.C_below HR0.out HB.out); (case side2 => exact fun kk hk W hG => Kd.C_below HR0.out (below_gb HB.out hG (by omega))); rintro e w3 ⟨v3, blk, rfl, hbb, ho, hG⟩; have HO2 := Aside0.mk (Kd.S_lower (base' := w.heap.size) ho (by omega)); have HB2 := Aside0.mk (below_gb HB.out hG (by omega)); have x9 := gb_cell hG x0 (by show w.heap.size ≠ blk; omega); clear HO ho hG HB x0; have HO := HO2; have HB := HB2; clear HO2 HB2))
  all_goals (go_wp2; go_ret; exact ⟨_, rfl, HO.out, HB.out⟩)
 next => cases h
end Go.Proofs.Ytdkimdlbjeobiaa.A

/- Rows that are picked out of other rows, and their row's cells. -/
namespace Go.Proofs.Ytdkimdlbjeobiaa.A
open Go.RowKit Go.Proofs.YtdkimdlbjeobiaaW.PrintWords Go.Proofs.YtdkimdlbjeobiaaW.PrintLast Go.Proofs.YtdkimdlbjeobiaaW.PrintMore
attribute [local go_sem] max2_int min2_int max_two min_two max_three min_three max_four min_four
set_option linter.unusedVariables false
set_option linter.unusedSimpArgs false

open Go.Shelf Go.Lib
def Kp (w W : World) (a b : Nat) : Prop := ∀ k, a ≤ k → k < b → W.heap[k]? = w.heap[k]?
theorem kp_step {w W W' : World} {a b : Nat} (h : Kp w W a b) (hb : Below W.heap.size W W') (hle : b ≤ W.heap.size) : Kp w W' a b := fun k h1 h2 => (hb.block k (by omega)).trans (h k h1 h2)
theorem S_cells2 {e i : Nat} {w : World} {base n1 : Nat} {v : Value} {xs : List (List Int)} (hS : Kd.S (Kd.slice i (Kd.int .i64)) e w base (fun k => base ≤ k ∧ k < n1) v xs) (hn : 0 < xs.length) :
 ∃ (blk cap : Nat) (cur : Array Value), v = .slice (some ⟨blk, 0, none⟩) xs.length cap ∧ base ≤ blk ∧ blk < n1 ∧ w.heap[blk]? = some (.cells cur e (0, 0)) ∧ cur.size = cap ∧ xs.length ≤ cap ∧ cap ≤ 9223372036854775807 ∧
  ∀ j, j < xs.length → ∃ A c, cur[j]! = .slice A (xs[j]!).length c ∧ (xs[j]!).length ≤ c ∧ ∀ W, Kp w W base n1 → Kd.C (Kd.int .i64) W A (xs[j]!).length (xs[j]!) := by
 obtain ⟨f, h0, inner, ho, hr⟩ := hS
 rw [List.length_zipIdx] at ho
 obtain ⟨hil, hown⟩ := ho
 have hsz1 : (Kd.tag f (Kd.slice i (Kd.int .i64))).sz = 1 := rfl
 rw [hsz1, Nat.mul_one] at hil
 rcases hown with ⟨_, hz⟩ | ⟨blk, cap, cur, rfl, hb, hh, hnc, hc, hcs, htk⟩
 · omega
 rw [hsz1, Nat.mul_one] at hcs htk
 refine ⟨blk, cap, cur, rfl, hb, (h0 blk rfl).2, hh, hcs, hnc, by unfold maxLen at hc; omega, fun j hj => ?_⟩
 have hM := hr.2 j (xs[j], j) (Kd.zip_at (List.getElem?_eq_getElem hj))
 rw [hsz1, Nat.mul_one] at hM
 have hcell : (inner.drop j).take 1 = [cur[j]!] := by
  rw [← htk, List.drop_take, List.take_take, Nat.min_eq_left (by omega)]
  have : j < cur.toList.length := by rw [Array.length_toList]; omega
  rw [List.drop_eq_getElem_cons this, List.take_succ_cons, List.take_zero, getElem!_pos cur j (by simpa using this), Array.getElem_toList]
 rw [hcell] at hM
 have hM2 : (Kd.slice i (Kd.int .i64)).M w base (fun k => ((base ≤ k ∧ k < n1) ∧ some k ≠ (Value.slice (some ⟨blk, 0, none⟩) xs.length cap).ownBlock) ∧ f k = j) xs[j] [cur[j]!] := hM
 obtain ⟨v, hv, hR⟩ := hM2
 obtain ⟨A, c, hA, hl, _⟩ := Kd.R_reads hR
 have e : cur[j]! = v := by simpa using hv
 rw [getElem!_pos xs j hj]
 refine ⟨A, c, by rw [e, hA], hl, fun W hG => ?_⟩
 have hR2 := Kd.R_step (w1 := W) hR (fun k hk hlt => hG k hk.1.1.1 hk.1.1.2)
 rw [hA] at hR2
 exact (Kd.R_reads' hR2).2.2
theorem S_pick {α : Type} [Inhabited α] {d : Kd α} (hd1 : d.sz = 1) {e : Nat} {W : World} {base nA n1 blk cap : Nat} {bs : List α} {cur : Array Value} {ps : List Nat} {v : Value}
 (hS : Kd.S d e W nA (fun k => nA ≤ k ∧ k < n1) (.slice (some ⟨blk, 0, none⟩) bs.length cap) bs) (hheap : W.heap[blk]? = some (.cells cur e (0, 0))) (hps : ps.Nodup) (hlt : ∀ p ∈ ps, p < bs.length)
 (hR : (Kd.raw 1).R e W base (fun k => k < nA ∨ n1 ≤ k) v (ps.map fun p => [cur[p]!])) (hb : base ≤ nA) : Kd.S d e W base (fun _ => True) v (ps.map fun p => bs[p]!) := by
 obtain ⟨f, h0, inner, ho, hr⟩ := hS
 rw [List.length_zipIdx] at ho
 obtain ⟨hil, hown⟩ := ho
 have hsz1 : (Kd.tag f d).sz = 1 := hd1
 rw [hsz1, Nat.mul_one] at hil
 rcases hown with ⟨he, _⟩ | ⟨g, cap2, cur2, he, hbb, hh, hn, hc, hcs, htk⟩
 · cases he
 injection he with e1 e2 e3
 injection e1 with e1
 injection e1 with e1 _ _
 subst e1
 subst e3
 rw [hheap] at hh
 injection hh with hh
 injection hh with hh1 _ _
 subst hh1
 rw [hsz1, Nat.mul_one] at hcs htk
 obtain ⟨g0, inner', ho', hr'⟩ := hR
 have hlen : ((ps.map fun p => bs[p]!).zipIdx).length = (ps.map fun p => [cur[p]!]).length := by simp
 refine ⟨fun b => ps.idxOf (f b), fun _ _ => trivial, inner', ?_, ?_, ?_⟩
 · rw [hlen]
   show World.ownsRow W base e d.sz v _ inner'
   rw [hd1]
   exact ho'
 · rw [hlen]
   show _ = _ * d.sz
   rw [hd1]
   exact hr'.1
 · intro q p hq
   rw [List.getElem?_zipIdx, Nat.zero_add] at hq
   obtain ⟨x, hx, rfl⟩ := Option.map_eq_some_iff.1 hq
   rw [List.getElem?_map] at hx
   obtain ⟨j, hj, rfl⟩ := Option.map_eq_some_iff.1 hx
   obtain ⟨hql, hjq⟩ := List.getElem?_eq_some_iff.1 hj
   have hjm : j ∈ ps := by rw [← hjq]; exact List.getElem_mem hql
   have hjn := hlt j hjm
   have hM := hr.2 j (bs[j], j) (Kd.zip_at (List.getElem?_eq_getElem hjn))
   rw [hsz1, Nat.mul_one] at hM
   have hcell : (inner.drop j).take 1 = [cur[j]!] := by
    rw [← htk, List.drop_take, List.take_take, Nat.min_eq_left (by omega)]
    have : j < cur.toList.length := by rw [Array.length_toList]; omega
    rw [List.drop_eq_getElem_cons this, List.take_succ_cons, List.take_zero, getElem!_pos cur j (by simpa using this), Array.getElem_toList]
   rw [hcell] at hM
   have hC := hr'.2 q [cur[j]!] (by rw [List.getElem?_map, hj]; rfl)
   have hC2 : (inner'.drop (q * (Kd.raw 1).sz)).take (Kd.raw 1).sz = [cur[j]!] := hC.1
   show (Kd.tag _ d).M W base _ (bs[j]!, q) ((inner'.drop (q * d.sz)).take d.sz)
   rw [hd1, show (1 : Nat) = (Kd.raw 1).sz from rfl, hC2, getElem!_pos bs j hjn]
   have hM2 : d.M W nA (fun k => ((nA ≤ k ∧ k < n1) ∧ some k ≠ (Value.slice (some ⟨blk, 0, none⟩) bs.length cap).ownBlock) ∧ f k = j) bs[j] [cur[j]!] := hM
   refine d.M_lower hb (d.M_mono (fun k hk => ⟨⟨trivial, fun he => ?_⟩, ?_⟩) hM2)
   · have := g0 k he.symm
     omega
   · show List.idxOf (f k) ps = q
     rw [hk.2, ← hjq, idx_at hps hql]
theorem raw_C {e : Nat} {i : Nat} {W : World} {base : Nat} {ok : Nat → Prop} {v : Value} {rows : List (List Value)} {xs : List (List Int)} (hR : (Kd.raw 1).R e W base ok v rows) (hl : rows.length = xs.length)
 (hx : ∀ (j : Nat) (x : List Int) (r : List Value), xs[j]? = some x → rows[j]? = some r → (Kd.slice i (Kd.int .i64)).K W x r) : ∃ A c, v = .slice A xs.length c ∧ xs.length ≤ c ∧ Kd.C (Kd.slice i (Kd.int .i64)) W A xs.length xs := by
 obtain ⟨A, c, rfl, hle, hC⟩ := Kd.R_reads hR
 rw [hl] at hle
 refine ⟨A, c, by rw [hl], hle, ?_⟩
 obtain ⟨h1, h2, h3⟩ := hC
 refine ⟨rfl, by rw [← hl]; exact h2, fun hp => ?_⟩
 obtain ⟨ad, rfl, h4⟩ := h3 (by rw [hl]; exact hp)
 refine ⟨ad, rfl, fun j x hj => ?_⟩
 have hjl : j < xs.length := (List.getElem?_eq_some_iff.1 hj).1
 obtain ⟨cs, hcs, hK, hcc⟩ := h4 j rows[j] (List.getElem?_eq_getElem (by omega))
 refine ⟨cs, hcs, ?_, hcc⟩
 rw [hK.1]
 exact hx j x _ hj (List.getElem?_eq_getElem (by omega))
set_option maxHeartbeats 2000000 in
theorem anyIdx0 {P : Program} {ρ : Ren} (L : SlLaysH.n6 P ρ) (A : Option Addr) (c : Nat) (g : Nat) (lb : Array Value) (w : World) :
 Calls P (ρ.f 6) #[.slice A 0 c, .func (.func g) #[] lb] w fun e w' => ∃ i : Int, e = .returned (.int .i64 i) ∧ i = -1 ∧ Below w.heap.size w w' := by
 have mixed := L.mixed; have t0 := L.t0; have a0 := L.a0; have z0 := L.z0; have v0 := L.v0; have t3 := L.t3; have a3 := L.a3; have z3 := L.z3; have v3 := L.v3; have t4 := L.t4; have a4 := L.a4; have z4 := L.z4; have v4 := L.v4; have t22 := L.t22; have a22 := L.a22; have z22 := L.z22; have v22 := L.v22; have a23 := L.a23; have z23 := L.z23; have t25 := L.t25; have a25 := L.a25; have z25 := L.z25; have v25 := L.v25
 have HB := Aside0.mk (Below.refl w.heap.size w)
 obtain ⟨_, _, FG⟩ := L.f6
 go_enter FG, SlBodyH.n6_ntmps ρ
 go_wp2
 go_loopg [5, 8] 0 (fun gg _ s8 wr => s8 = .int .i64 0 ∧ Aside0 (Below w.heap.size w wr))
 case atStart => exact ⟨rfl, ⟨by repeat (first | (with_reducible first | exact HB.out | apply below_alloc | apply pw_below_drewN | apply below_drew1) | exact HB.out)⟩⟩
 case round =>
  clear HB
  obtain ⟨rfl, HB⟩ := hrel
  go_wp2
  go_ret
  exact ⟨_, rfl, rfl, HB.out⟩
set_option maxHeartbeats 2000000 in
theorem anyHas0 {P : Program} {ρ : Ren} (L : SlLaysH.n8 P ρ) (A : Option Addr) (c : Nat) (g : Nat) (lb : Array Value) (w : World) :
 Calls P (ρ.f 8) #[.slice A 0 c, .func (.func g) #[] lb] w fun e w' => e = .returned (.bool false) ∧ Below w.heap.size w w' := by
 have mixed := L.mixed; have t0 := L.t0; have a0 := L.a0; have z0 := L.z0; have v0 := L.v0; have t3 := L.t3; have a3 := L.a3; have z3 := L.z3; have v3 := L.v3; have t4 := L.t4; have a4 := L.a4; have z4 := L.z4; have v4 := L.v4; have t22 := L.t22; have a22 := L.a22; have z22 := L.z22; have v22 := L.v22; have a23 := L.a23; have z23 := L.z23; have t25 := L.t25; have a25 := L.a25; have z25 := L.z25; have v25 := L.v25
 have e6 : ∀ args w, (callFunc (ρ.f 6) args).run P w = .ok (.enter (ρ.f 6) args) w := L.f6.enters rfl
 obtain ⟨_, _, FG⟩ := L.f8
 go_enter FG, SlBodyH.n8_ntmps ρ
 go_wp2_with (go_at_fn (ρ.f 6); refine (anyIdx0 { L with } A c g lb _).mono ?_; rintro e w' ⟨i, rfl, hi, hb⟩; have HI := Aside0.mk hi; have HB := Aside0.mk hb; clear hi hb)
 go_ret
 refine ⟨?_, HB.out⟩
 rw [HI.out]
 rfl
end Go.Proofs.Ytdkimdlbjeobiaa.A

-- made by a program of this repo (wip/pp.py) through the kit's printer
namespace Go.Proofs.Ytdkimdlbjeobiaa.A
open Go.RowKit Go.Proofs.YtdkimdlbjeobiaaW.PrintWords Go.Proofs.YtdkimdlbjeobiaaW.PrintLast Go.Proofs.YtdkimdlbjeobiaaW.PrintMore
attribute [local go_sem] max2_int min2_int max_two min_two max_three min_three max_four min_four
set_option linter.unusedVariables false
set_option linter.unusedSimpArgs false

/-! ### spec_l1In: function 66 -/
def spec_l1In.f (a0 : Int) (a1 : Int) (a2 : Int) : Option (Bool) := if a0 ≥ a1 then (some (decide (a0 ≤ a2))) else (some false)
set_option maxHeartbeats 8000000 in
set_option maxRecDepth 100000 in
theorem spec_l1In.calls (a0 : Int) (a1 : Int) (a2 : Int) (r : Bool) (w : World) (h : spec_l1In.f a0 a1 a2 = some r) :
 Calls Try.prog 66 #[.int .i64 a0, .int .i64 a1, .int .i64 a2] w fun e w' => e = .returned (.bool r) ∧ Drawn0 w w' := by
 have H : (if a0 ≥ a1 then (some (decide (a0 ≤ a2))) else (some false)) = some r := h
 clear h
 by_cases c4 : a0 ≥ a1
 · rw [if_pos c4] at H
   have c4b0 : decide (a1 ≤ a0) = true := decide_eq_true c4
   clear c4
   obtain rfl := Option.some.inj H
   go_enter Try.func66, Try.ntmps66
   go_wp2
   go_ret
   exact ⟨by first | rfl | (simp; done) | (simp [*]; done), by repeat (first | exact Drawn0.refl _ | apply Drawn0.step)⟩
 · rw [if_neg c4] at H
   have c4b0 : decide (a1 ≤ a0) = false := decide_eq_false c4
   clear c4
   obtain rfl := Option.some.inj H
   go_enter Try.func66, Try.ntmps66
   go_wp2
   go_ret
   exact ⟨by first | rfl | (simp; done) | (simp [*]; done), by repeat (first | exact Drawn0.refl _ | apply Drawn0.step)⟩

end Go.Proofs.Ytdkimdlbjeobiaa.A

-- made by a program of this repo (wip/pp.py) through the kit's printer
namespace Go.Proofs.Ytdkimdlbjeobiaa.A
open Go.RowKit Go.Proofs.YtdkimdlbjeobiaaW.PrintWords Go.Proofs.YtdkimdlbjeobiaaW.PrintLast Go.Proofs.YtdkimdlbjeobiaaW.PrintMore
attribute [local go_sem] max2_int min2_int max_two min_two max_three min_three max_four min_four
set_option linter.unusedVariables false
set_option linter.unusedSimpArgs false

/-! ### spec_l1All: function 68 -/
def spec_l1All.l0 : Nat → Int → Int → List Int → Int → Int → Option (Bool)
 | 0, _, _, _, _, _ => none
 | k + 1, x1, x2, x9, x10, x11 => if x11 < x10 then (if 0 ≤ x11 then (if x11 < (x9.length : Int) then ((spec_l1In.f (rd x9 x11) x1 x2).bind fun t102 => (if t102 = true then (spec_l1All.l0 k x1 x2 x9 x10 (wrap64 (x11 + 1))) else (some false))) else (none)) else (none)) else (some true)
def spec_l1All.f (k : Nat) (l0 : List Int) (a1 : Int) (a2 : Int) : Option (Bool) := spec_l1All.l0 k a1 a2 l0 (l0.length : Int) 0
set_option maxHeartbeats 8000000 in
set_option maxRecDepth 100000 in
theorem spec_l1All.calls (k : Nat) (A0 : Option Addr) (c0 : Nat) (l0 : List Int) (a1 : Int) (a2 : Int) (r : Bool) (w : World) (hr0 : Kd.C (Kd.int .i64) w A0 l0.length l0) (hc0 : l0.length ≤ c0) (h : spec_l1All.f k l0 a1 a2 = some r) :
 Calls Try.prog 68 #[.slice A0 l0.length c0, .int .i64 a1, .int .i64 a2] w fun e w' => e = .returned (.bool r) ∧ Drawn0 w w' := by
 have HR0 := Aside0.mk hr0
 have HC0 := Aside0.mk hc0
 clear hr0 hc0
 have H : (spec_l1All.l0 k a1 a2 l0 (l0.length : Int) 0) = some r := h
 clear h
 have H' := Aside0.mk H
 clear H
 go_enter Try.func68, Try.ntmps68
 go_wp2
 go_loopg [11] k (fun kq v11 w' => ∃ (x11_1 : Int), v11 = .int .i64 x11_1 ∧ Aside0 (spec_l1All.l0 kq a1 a2 l0 (l0.length : Int) x11_1 = some r) ∧ Aside0 (kq ≤ k) ∧ Drawn0 w w')
 case atStart => exact ⟨(0), (by first | rfl | (simp; done) | (simp [*]; done)), H', ⟨Nat.le_refl _⟩, by repeat (first | exact Drawn0.refl _ | apply Drawn0.step)⟩
 case round =>
  clear H'
  try clear p2
  obtain ⟨x11_1, rfl, HA, HK1, ⟨m1, rfl⟩⟩ := hrel
  cases gk with
  | zero => exact absurd HA.out (by simp [spec_l1All.l0])
  | succ k1 =>
   have H := HA.out
   clear HA
   simp only [spec_l1All.l0] at H
   by_cases c4 : x11_1 < (l0.length : Int)
   · rw [if_pos c4] at H
     have c4b0 : decide (x11_1 < (l0.length : Int)) = true := decide_eq_true c4
     clear c4
     by_cases c5 : 0 ≤ x11_1
     · rw [if_pos c5] at H
       have c5b0 : decide (0 ≤ x11_1) = true := decide_eq_true c5
       clear c5
       by_cases c6 : x11_1 < (l0.length : Int)
       · rw [if_pos c6] at H
         have c6b0 : decide (x11_1 < (l0.length : Int)) = true := decide_eq_true c6
         clear c6
         replace H := Option.bind_eq_some_iff.mp H
         obtain ⟨t102, A70, H⟩ := H
         replace H : (if t102 = true then (spec_l1All.l0 k1 a1 a2 l0 (l0.length : Int) (wrap64 (x11_1 + 1))) else (some false)) = some r := H
         have A7 := Aside0.mk A70
         clear A70
         by_cases c8 : t102 = true
         · subst c8
           have H1 : (spec_l1All.l0 k1 a1 a2 l0 (l0.length : Int) (wrap64 (x11_1 + 1))) = some r := by rw [if_pos rfl] at H; exact H
           clear H
           have H := H1
           clear H1
           have H' := Aside0.mk H
           clear H
           have p101 : 0 ≤ (x11_1 : Int) := of_decide_eq_true (by first | (with_reducible assumption) | assumption)
           have q101 : x11_1 < (l0.length : Int) := of_decide_eq_true (by first | (with_reducible assumption) | assumption)
           obtain ⟨ad101, e101, hx101_0⟩ := Kd.at_int HR0.out x11_1 p101 q101
           cases e101
           replace p101 := eq_true p101
           replace q101 := eq_true q101
           go_wp2_with (first | ((with_reducible refine gate_callee (f := 66) rfl ?_); refine goesL_ (some 18) rfl rfl Try.func66 (by kernel_rfl) rfl #[.int .i64 (rd l0 x11_1), .int .i64 a1, .int .i64 a2] rfl (by (try simp only [List.map_toArray, List.map_cons, List.map_nil]); first | done | rfl | (simp only [List.length_drop, List.length_take]; rfl)) ?_; (with_reducible refine (spec_l1In.calls (rd l0 x11_1) a1 a2 true _ A7.out).mono ?_); rintro e w' ⟨rfl, ⟨nd, rfl⟩⟩; refine ⟨_, rfl, ?_⟩))
           go_roundg k1
           case measure => have := HK1.out; omega
           case rel => exact ⟨(wrap64 (x11_1 + 1)), (by first | rfl | (simp; done) | (simp [*]; done)), H', ⟨by have := HK1.out; omega⟩, by repeat (first | exact Drawn0.refl _ | apply Drawn0.step)⟩
         · replace c8 := Bool.eq_false_iff.mpr c8
           subst c8
           have H1 : (some false) = some r := by rw [if_neg (show ¬ (false = true) by decide)] at H; exact H
           clear H
           have H := H1
           clear H1
           obtain rfl := Option.some.inj H
           have p101 : 0 ≤ (x11_1 : Int) := of_decide_eq_true (by first | (with_reducible assumption) | assumption)
           have q101 : x11_1 < (l0.length : Int) := of_decide_eq_true (by first | (with_reducible assumption) | assumption)
           obtain ⟨ad101, e101, hx101_0⟩ := Kd.at_int HR0.out x11_1 p101 q101
           cases e101
           replace p101 := eq_true p101
           replace q101 := eq_true q101
           go_wp2_with (first | ((with_reducible refine gate_callee (f := 66) rfl ?_); refine goesL_ (some 18) rfl rfl Try.func66 (by kernel_rfl) rfl #[.int .i64 (rd l0 x11_1), .int .i64 a1, .int .i64 a2] rfl (by (try simp only [List.map_toArray, List.map_cons, List.map_nil]); first | done | rfl | (simp only [List.length_drop, List.length_take]; rfl)) ?_; (with_reducible refine (spec_l1In.calls (rd l0 x11_1) a1 a2 false _ A7.out).mono ?_); rintro e w' ⟨rfl, ⟨nd, rfl⟩⟩; refine ⟨_, rfl, ?_⟩))
           go_ret
           exact ⟨by first | rfl | (simp; done) | (simp [*]; done), by repeat (first | exact Drawn0.refl _ | apply Drawn0.step)⟩
       · rw [if_neg c6] at H
         exact absurd H (by simp)
     · rw [if_neg c5] at H
       exact absurd H (by simp)
   · rw [if_neg c4] at H
     have c4b0 : decide (x11_1 < (l0.length : Int)) = false := decide_eq_false c4
     clear c4
     obtain rfl := Option.some.inj H
     go_wp2
     go_ret
     exact ⟨by first | rfl | (simp; done) | (simp [*]; done), by repeat (first | exact Drawn0.refl _ | apply Drawn0.step)⟩

end Go.Proofs.Ytdkimdlbjeobiaa.A

namespace Go.Proofs.Ytdkimdlbjeobiaa.A
open Go.RowKit Go.Proofs.YtdkimdlbjeobiaaW.PrintWords Go.Proofs.YtdkimdlbjeobiaaW.PrintLast Go.Proofs.YtdkimdlbjeobiaaW.PrintMore
set_option linter.unusedVariables false
set_option linter.unusedSimpArgs false
/-! plain lemmas that all pure texts lean on -/
theorem w64 {x : Int} (h1 : -9223372036854775808 ≤ x) (h2 : x ≤ 9223372036854775807) : wrap64 x = x := by
 unfold wrap64
 omega
theorem wsucc {i : Nat} {n : Nat} (h : i < n) (hn : n ≤ 9223372036854775807) : wrap64 ((i : Int) + 1) = ((i + 1 : Nat) : Int) := by
 rw [w64 (by omega) (by omega)]
 omega
theorem rdn {xs : List Int} {i : Nat} (h : i < xs.length) : rd xs (i : Int) = xs[i] := by
 simp [rd, h]
theorem Ev.succ {α : Type} {g : Nat → Option α} {r : α} (h : Ev (fun k => g (k + 1)) r) : Ev g r := Ev.step (fun _ => rfl) h
theorem Ev.get {α : Type} {g : Nat → Option α} {r : α} (h : Ev g r) : ∃ k, g k = some r := Ev.rounds h
theorem Ev.ite {α : Type} {c : Prop} [Decidable c] {g f : Nat → Option α} {r s : α} (h : c → Ev g r) (h' : ¬ c → Ev f s) : Ev (fun k => if c then g k else f k) (if c then r else s) := by
 by_cases hc : c
 · simp only [hc, if_true]
   exact h hc
 · simp only [hc, if_false]
   exact h' hc
/-- A loop over the elements of a list that is left early. -/
theorem ev_all {xs : List Int} {g : Nat → Int → Option Bool} (p : Int → Bool) (hend : Ev (fun k => g k (xs.length : Int)) true)
 (hyes : ∀ (i : Nat) (h : i < xs.length) r, p xs[i] = true → Ev (fun k => g k ((i + 1 : Nat) : Int)) r → Ev (fun k => g k (i : Int)) r)
 (hno : ∀ (i : Nat) (h : i < xs.length), p xs[i] = false → Ev (fun k => g k (i : Int)) false) :
 ∀ (n i : Nat), i + n = xs.length → Ev (fun k => g k (i : Int)) ((xs.drop i).all p)
 | 0, i, h => by
  rw [List.drop_eq_nil_of_le (by omega), show i = xs.length by omega]
  exact hend
 | n + 1, i, h => by
  have hi : i < xs.length := by omega
  rw [List.drop_eq_getElem_cons hi, List.all_cons]
  cases hp : p xs[i]
  · exact hno i hi hp
  · rw [Bool.true_and]
    exact hyes i hi _ hp (ev_all p hend hyes hno n (i + 1) (by omega))
/-- A loop over the elements of a list that carries a state. -/
theorem ev_fold {σ ρ : Type} {xs : List Int} {g : Nat → σ → Int → Option ρ} (step : σ → Int → σ) (I : σ → Nat → Prop) (fin : σ → ρ)
 (hend : ∀ s, I s xs.length → Ev (fun k => g k s (xs.length : Int)) (fin s))
 (hstep : ∀ (i : Nat) (h : i < xs.length) s r, I s i → I (step s xs[i]) (i + 1) → Ev (fun k => g k (step s xs[i]) ((i + 1 : Nat) : Int)) r → Ev (fun k => g k s (i : Int)) r)
 (hI : ∀ (i : Nat) (h : i < xs.length) s, I s i → I (step s xs[i]) (i + 1)) :
 ∀ (n i : Nat) (s : σ), i + n = xs.length → I s i → Ev (fun k => g k s (i : Int)) (fin ((xs.drop i).foldl step s))
 | 0, i, s, h, hs => by
  have e : i = xs.length := by omega
  subst e
  rw [List.drop_eq_nil_of_le (by omega)]
  exact hend s hs
 | n + 1, i, s, h, hs => by
  have hi : i < xs.length := by omega
  rw [List.drop_eq_getElem_cons hi, List.foldl_cons]
  exact hstep i hi s _ hs (hI i hi s hs) (ev_fold step I fin hend hstep hI n (i + 1) _ (by omega) (hI i hi s hs))
theorem rdi {xs : List Int} {i : Int} (h0 : 0 ≤ i) (h1 : i < xs.length) : rd xs i = xs[i.toNat]'(by omega) := by
 unfold rd
 rw [List.getD_eq_getElem?_getD, List.getElem?_eq_getElem (by omega)]
 rfl
end Go.Proofs.Ytdkimdlbjeobiaa.A

namespace Go.Proofs.Ytdkimdlbjeobiaa.A
open Go.RowKit Go.Proofs.YtdkimdlbjeobiaaW.PrintWords Go.Proofs.YtdkimdlbjeobiaaW.PrintLast Go.Proofs.YtdkimdlbjeobiaaW.PrintMore
set_option linter.unusedVariables false
set_option linter.unusedSimpArgs false
theorem l1In_eq (a b c : Int) : spec_l1In.f a b c = some (decide (b ≤ a ∧ a ≤ c)) := by
 unfold spec_l1In.f
 by_cases h : b ≤ a <;> simp [h]
theorem within_eq (a b c : Int) : impl_within.f a b c = some (decide (b ≤ a ∧ a ≤ c)) := by
 unfold impl_within.f
 by_cases h : b ≤ a <;> simp [h]
end Go.Proofs.Ytdkimdlbjeobiaa.A

namespace Go.Proofs.Ytdkimdlbjeobiaa.A
open Go.RowKit Go.Proofs.YtdkimdlbjeobiaaW.PrintWords Go.Proofs.YtdkimdlbjeobiaaW.PrintLast Go.Proofs.YtdkimdlbjeobiaaW.PrintMore
set_option linter.unusedVariables false
set_option linter.unusedSimpArgs false
def inR (lo hi : Int) (xs : List Int) : Bool := xs.all fun x => decide (lo ≤ x ∧ x ≤ hi)
theorem l1All_ev (xs : List Int) (lo hi : Int) (hx : xs.length ≤ 9223372036854775807) : Ev (fun k => spec_l1All.f k xs lo hi) (inR lo hi xs) := by
 have h := ev_all (xs := xs) (g := fun k i => spec_l1All.l0 k lo hi xs (xs.length : Int) i) (fun x => decide (lo ≤ x ∧ x ≤ hi))
  (Ev.succ (by simp only [spec_l1All.l0, if_neg (Int.lt_irrefl _)]; exact Ev.now _))
  (fun i h r hp hr => Ev.succ (by
   simp only [spec_l1All.l0, if_pos (show (i : Int) < (xs.length : Int) by omega), if_pos (show (0 : Int) ≤ (i : Int) by omega), rdn h, l1In_eq, Option.bind_some, hp, if_true, wsucc h hx]
   exact hr))
  (fun i h hp => Ev.succ (by
   simp only [spec_l1All.l0, if_pos (show (i : Int) < (xs.length : Int) by omega), if_pos (show (0 : Int) ≤ (i : Int) by omega), rdn h, l1In_eq, Option.bind_some, hp]
   exact Ev.now _)) xs.length 0 (by omega)
 exact h
theorem allWithin_ev (xs : List Int) (lo hi : Int) (hx : xs.length ≤ 9223372036854775807) : Ev (fun k => impl_allWithin.f k xs lo hi) (inR lo hi xs) := by
 have h := ev_all (xs := xs) (g := fun k i => impl_allWithin.l0 k lo hi xs (xs.length : Int) i) (fun x => decide (lo ≤ x ∧ x ≤ hi))
  (Ev.succ (by simp only [impl_allWithin.l0, if_neg (Int.lt_irrefl _)]; exact Ev.now _))
  (fun i h r hp hr => Ev.succ (by
   simp only [impl_allWithin.l0, if_pos (show (i : Int) < (xs.length : Int) by omega), if_pos (show (0 : Int) ≤ (i : Int) by omega), rdn h, within_eq, Option.bind_some, hp, if_true, wsucc h hx]
   exact hr))
  (fun i h hp => Ev.succ (by
   simp only [impl_allWithin.l0, if_pos (show (i : Int) < (xs.length : Int) by omega), if_pos (show (0 : Int) ≤ (i : Int) by omega), rdn h, within_eq, Option.bind_some, hp]
   exact Ev.now _)) xs.length 0 (by omega)
 exact h
end Go.Proofs.Ytdkimdlbjeobiaa.A

/- slices.IndexFunc, slices.ContainsFunc at elements of one cell, told for any program that bears them (the shelf's worked proof, turned to rows that begin anywhere). -/
namespace Go.Proofs.Ytdkimdlbjeobiaa.A
open Go.RowKit Go.Proofs.YtdkimdlbjeobiaaW.PrintWords Go.Proofs.YtdkimdlbjeobiaaW.PrintLast Go.Proofs.YtdkimdlbjeobiaaW.PrintMore
attribute [local go_sem] max2_int min2_int max_two min_two max_three min_three max_four min_four
set_option linter.unusedVariables false
set_option linter.unusedSimpArgs false

open Go.Shelf Go.Lib
end Go.Proofs.Ytdkimdlbjeobiaa.A

/-
  DERIVED: THE SHELF's CONTRACTS AT THIS DUMP, IN PLAIN WORDS (tools/lay-plain.mjs out of 'YtdkimdlbjeobiaaShelfH.lean', which tools/lay-shelf.mjs wrote): THE SAME DECLARATIONS UNDER THE SAME NAMES: 'import', 'namespace', 'open', 'def', 'theorem' AND NOTHING ELSE: no command of the shelf's: FOR A HAND-IN. Each laying: the table of numbers ('.._ren') and one theorem, a field a fact of the dump's own or the kernel's comparison; each contract: ONE APPLICATION.
-/
namespace Go.Proofs
open Go.Shelf
def Try.hasL_ren : Go.Shelf.Ren := ⟨fun | 8 => 41 | 6 => 75 | n => n, fun | 22 => 23 | 23 => 22 | 25 => 31 | 4 => 4 | 3 => 3 | 0 => 0 | n => n, fun | n => n⟩
theorem Try.hasL : Go.Proofs.SlLaysH.n8 Try.prog Try.hasL_ren := {
 mixed := by kernel_rfl
 f6 := ⟨Try.f75.name, by decide, Try.func75.trans (congrArg some (by kernel_rfl))⟩
 f8 := ⟨Try.f41.name, by decide, Try.func41.trans (congrArg some (by kernel_rfl))⟩
 t0 := Try.underlying0
 a0 := Try.isAgg0
 z0 := Try.sizeOf0
 v0 := Try.zeroValue0
 t3 := Try.underlying3
 a3 := Try.isAgg3
 z3 := Try.sizeOf3
 v3 := Try.zeroValue3
 t4 := Try.underlying4
 a4 := Try.isAgg4
 z4 := Try.sizeOf4
 v4 := Try.zeroValue4
 t22 := Try.underlying23
 a22 := Try.isAgg23
 z22 := Try.sizeOf23
 v22 := Try.zeroValue23
 a23 := Try.isAgg22
 z23 := Try.sizeOf22
 t25 := Try.underlying31
 a25 := Try.isAgg31
 z25 := Try.sizeOf31
 v25 := Try.zeroValue31 }
end Go.Proofs

/- IsSquare: slices.ContainsFunc over rows, with a function that has captured the table. -/
namespace Go.Proofs.Ytdkimdlbjeobiaa.A
open Go.RowKit Go.Proofs.YtdkimdlbjeobiaaW.PrintWords Go.Proofs.YtdkimdlbjeobiaaW.PrintLast Go.Proofs.YtdkimdlbjeobiaaW.PrintMore
attribute [local go_sem] max2_int min2_int max_two min_two max_three min_three max_four min_four
set_option linter.unusedVariables false
set_option linter.unusedSimpArgs false

open Go.Shelf Go.Lib
theorem rowsAt {w : World} {ad : Addr} {l0 : List (List Int)} (hr0 : Kd.C (Kd.slice 3 (Kd.int .i64)) w (some ad) l0.length l0) : ∃ vs : Nat → Value, ∀ j, j < l0.length → w.cell? (ad.add j) = some (vs j) ∧ ∃ A c, vs j = .slice A (l0.getD j []).length c ∧ (l0.getD j []).length ≤ c ∧ Kd.C (Kd.int .i64) w A (l0.getD j []).length (l0.getD j []) := by
 have hrows : ∀ j, j < l0.length → ∃ v : Value, w.cell? (ad.add j) = some v ∧ ∃ A c, v = .slice A (l0.getD j []).length c ∧ (l0.getD j []).length ≤ c ∧ Kd.C (Kd.int .i64) w A (l0.getD j []).length (l0.getD j []) := fun j hj => by
  obtain ⟨ad', A, c, he, hcell, hle, hC⟩ := at_L1 hr0 (j : Int) (by omega) (by omega)
  cases he
  exact ⟨_, hcell, A, c, rfl, hle, hC⟩
 exact ⟨fun j => if h : j < l0.length then Classical.choose (hrows j h) else .bool false, fun j h => by
  simp only [dif_pos h]
  exact Classical.choose_spec (hrows j h)⟩
end Go.Proofs.Ytdkimdlbjeobiaa.A

/- LowerCovers: of the lists below, in order, those that no chosen one majorizes. What is chosen is a row of cells that lie in the row below: its elements stay apart. -/
namespace Go.Proofs.Ytdkimdlbjeobiaa.A
open Go.RowKit Go.Proofs.YtdkimdlbjeobiaaW.PrintWords Go.Proofs.YtdkimdlbjeobiaaW.PrintLast Go.Proofs.YtdkimdlbjeobiaaW.PrintMore
attribute [local go_sem] max2_int min2_int max_two min_two max_three min_three max_four min_four
set_option linter.unusedVariables false
set_option linter.unusedSimpArgs false

open Go.Shelf Go.Lib
def covHas (k : Nat) (out : List (List Int)) (b : List Int) : Option Bool := if out.all (fun c => (impl_isMajorized.f k b c).isSome) = true then some (out.any fun c => impl_isMajorized.f k b c == some true) else none
set_option maxHeartbeats 2000000 in
theorem cov_cell (k : Nat) (b x : List Int) (t : Bool) (Ab A : Option Addr) (cb c B : Nat) (W : World) (h0 : W.cell? ⟨B, 0, none⟩ = some (.slice Ab b.length cb)) (hr0 : Kd.C (Kd.int .i64) W Ab b.length b) (hc0 : b.length ≤ cb) (hr : Kd.C (Kd.int .i64) W A x.length x) (hc : x.length ≤ c) (h : impl_isMajorized.f k b x = some t) :
 Calls Try.prog 42 (#[.slice A x.length c] ++ #[.pointer (some ⟨B, 0, none⟩)]) W fun e w' => e = .returned (.bool t) ∧ Below W.heap.size W w' := by
 have HR0 := Aside0.mk hr0
 have HC0 := Aside0.mk hc0
 have HR := Aside0.mk hr
 have HC := Aside0.mk hc
 have HK := Aside0.mk h
 clear hr0 hc0 hr hc h
 show Calls Try.prog 42 #[.slice A x.length c, .pointer (some ⟨B, 0, none⟩)] W _
 go_enter Try.func42, Try.ntmps42
 go_wp2_with (go_at_call 43; (refine (impl_isMajorized.calls k Ab cb b A c x t _ ?side1 ?side2 ?side3 ?side4 HK.out).mono ?_); (case side1 => first | exact HR0.out | exact Kd.C_drewN HR0.out _); (case side2 => exact HC0.out); (case side3 => first | exact HR.out | exact Kd.C_drewN HR.out _); (case side4 => exact HC.out); rintro e w' ⟨rfl, hb⟩; have HB := Aside0.mk hb; clear hb)
 go_ret
 exact ⟨rfl, HB.out⟩
theorem covHas_calls (k B : Nat) (Ab : Option Addr) (cb : Nat) (b : List Int) (A0 : Option Addr) (c0 : Nat) (out : List (List Int)) (r : Bool) (w : World) (hB : w.cell? ⟨B, 0, none⟩ = some (.slice Ab b.length cb)) (hrb : Kd.C (Kd.int .i64) w Ab b.length b) (hcb : b.length ≤ cb) (hr0 : Kd.C (Kd.slice 3 (Kd.int .i64)) w A0 out.length out) (hc0 : out.length ≤ c0) (h : covHas k out b = some r) :
 Calls Try.prog 41 #[.slice A0 out.length c0, .func (.func 42) #[] #[.pointer (some ⟨B, 0, none⟩)]] w fun e w' => e = .returned (.bool r) ∧ Below w.heap.size w w' := by
 unfold covHas at h
 split at h
 next hc =>
  rw [List.all_eq_true] at hc
  have hr := Option.some.inj h
  by_cases hn : out.length = 0
  · have hout : out = [] := List.length_eq_zero_iff.1 hn
    subst hout
    have hf : r = false := by rw [← hr]; rfl
    subst hf
    exact (anyHas0 Try.hasL A0 c0 42 #[.pointer (some ⟨B, 0, none⟩)] w).mono fun _ _ hx => hx
  · obtain ⟨ad, _, _, hA, _⟩ := at_L1 hr0 0 (by omega) (by omega)
    subst hA
    obtain ⟨vs, hvs⟩ := rowsAt hr0
    have hbig : out.length ≤ 9223372036854775807 := by have := hr0.2.1; omega
    have eg : ∀ args w, (callFunc 42 args).run Try.prog w = .ok (.enter 42 args) w := fun args w => enters_ Try.func42 (by kernel_rfl) rfl args w
    refine (anyHasB Try.hasL ad out.length c0 vs (fun j => impl_isMajorized.f k b (out.getD j []) == some true) 42 #[.pointer (some ⟨B, 0, none⟩)] w eg hbig (fun j hj => (hvs j hj).1) (fun j hj W hb => ?_)).mono ?_
    · obtain ⟨A, c, hv, hle, hC⟩ := (hvs j hj).2
      rw [hv]
      have hm : out.getD j [] ∈ out := by
       rw [List.getD_eq_getElem?_getD, List.getElem?_eq_getElem hj]
       exact List.getElem_mem hj
      obtain ⟨t, ht⟩ := Option.isSome_iff_exists.1 (hc _ hm)
      have hlt := World.block_lt_of_cell? w _ hB
      have := cov_cell k b (out.getD j []) t Ab A cb c B W ((hb.cell (p := ⟨B, 0, none⟩) hlt).trans hB) (Kd.C_below hrb hb) hcb (Kd.C_below hC hb) hle ht
      rw [ht]
      cases t <;> exact this
    · rintro e w' ⟨rb, rfl, hi, hb⟩
      refine ⟨?_, hb⟩
      have e : rb = r := by
       rw [← hr, Bool.eq_iff_iff, List.any_eq_true, hi]
       constructor
       · rintro ⟨j, hj, hp⟩
         rw [List.getD_eq_getElem?_getD, List.getElem?_eq_getElem hj] at hp
         exact ⟨_, List.getElem_mem hj, hp⟩
       · rintro ⟨x, hx, hp⟩
         obtain ⟨j, hj, rfl⟩ := List.mem_iff_getElem.1 hx
         exact ⟨j, hj, by rw [List.getD_eq_getElem?_getD, List.getElem?_eq_getElem hj]; exact hp⟩
      rw [e]
 next => cases h
theorem tail_addr {A12 : Option Addr} {blk co j : Nat} (h : A12 = (if co = (1 : Int).toNat then (some ⟨blk, 0, none⟩ : Option Addr) else (some ⟨blk, 0, none⟩ : Option Addr).map (·.add ((1 : Int).toNat * 1)))) (hco : 2 ≤ co) : ∃ ad : Addr, A12 = some ad ∧ ad.add j = ⟨blk, j + 1, none⟩ := by
 have hne : ¬ co = (1 : Int).toNat := by
  show ¬ co = 1
  omega
 rw [h, if_neg hne]
 refine ⟨(⟨blk, 0, none⟩ : Addr).add 1, rfl, ?_⟩
 rw [addr0_add]
 unfold Addr.add
 split
 · next hj => rw [hj]
 · show (⟨blk, 1 + j, none⟩ : Addr) = _
   rw [Nat.add_comm]
theorem tail_get {bs y : List (List Int)} (h : y = bs.drop 1) {i : Nat} (hi : i < y.length) : bs[i + 1]! = rd_L1 y (i : Int) := by
 subst h
 rw [List.length_drop] at hi
 have e : (bs.drop 1)[i]? = bs[i + 1]? := by rw [List.getElem?_drop, Nat.add_comm]
 unfold rd_L1
 rw [Int.toNat_natCast, List.getD_eq_getElem?_getD, e, getElem!_pos bs (i + 1) (by omega), List.getElem?_eq_getElem (show i + 1 < bs.length by omega)]
 rfl
theorem pick_K {cur : Array Value} {bs : List (List Int)} {t : Nat} {W : World} {ps : List Nat} (hrow : ∀ p ∈ ps, ∃ A c, cur[p]! = .slice A (bs[p]!).length c ∧ (bs[p]!).length ≤ c ∧ Kd.C (Kd.int .i64) W A (bs[p]!).length (bs[p]!)) (j : Nat) (x : List Int) (r : List Value) (hj : (ps.map fun p => bs[p]!)[j]? = some x) (hr : (ps.map fun p => [cur[p]!])[j]? = some r) : (Kd.slice t (Kd.int .i64)).K W x r := by
 rw [List.getElem?_map] at hj hr
 obtain ⟨p, hp, rfl⟩ := Option.map_eq_some_iff.1 hj
 rw [hp] at hr
 have e : r = [cur[p]!] := by simpa using hr.symm
 subst e
 obtain ⟨hl, he⟩ := List.getElem?_eq_some_iff.1 hp
 obtain ⟨A, c, h1, h2, h3⟩ := hrow p (by rw [← he]; exact List.getElem_mem hl)
 exact ⟨A, c, by rw [h1], h2, h3⟩
theorem succ_w {i n : Nat} (h : i < n) (hn : n ≤ 9223372036854775807) : wrap64 ((i : Int) + 1) = ((i + 1 : Nat) : Int) := by
 unfold wrap64
 omega
mutual
def impl_LowerCovers.j0 : Nat → List Int → Bool → Option ((List (List Int)) × Bool)
 | 0, _, _ => none
 | k + 1, x0, x14 => if x14 = true then (some (([] : List (List Int)), false)) else ((impl_below.f k x0).bind fun t528 => (if 1 ≤ (t528.length : Int) then ((some (t528.drop 1 : List (List Int))).bind fun y531 => (impl_LowerCovers.l0 k (([] : List (List Int))) y531 (y531.length : Int) 0)) else (none)))
def impl_LowerCovers.l0 : Nat → List (List Int) → List (List Int) → Int → Int → Option ((List (List Int)) × Bool)
 | 0, _, _, _, _ => none
 | k + 1, x4, x18, x19, x20 => if x20 < x19 then (if 0 ≤ x20 then (if x20 < (x18.length : Int) then ((covHas k x4 (rd_L1 x18 x20)).bind fun t537 => (if t537 = true then (impl_LowerCovers.l0 k x4 x18 x19 (wrap64 (x20 + 1))) else (if x4.length < 5864062014805 then (impl_LowerCovers.l0 k (x4 ++ [rd_L1 x18 x20]) x18 x19 (wrap64 (x20 + 1))) else (none)))) else (none)) else (none)) else (some (x4, true))
end
def impl_LowerCovers.f (k : Nat) (l0 : List Int) : Option ((List (List Int)) × Bool) := (impl_IsList.f k l0).bind fun t523 => (if t523 = true then ((impl_total.f k l0).bind fun t524 => (impl_LowerCovers.j0 k l0 (decide (t524 > 30)))) else (impl_LowerCovers.j0 k l0 true))
set_option maxHeartbeats 8000000 in
set_option maxRecDepth 100000 in
theorem impl_LowerCovers.calls (k : Nat) (A0 : Option Addr) (c0 : Nat) (l0 : List Int) (r1 : List (List Int)) (r2 : Bool) (w : World) (hr0 : Kd.C (Kd.int .i64) w A0 l0.length l0) (hc0 : l0.length ≤ c0) (h : impl_LowerCovers.f k l0 = some (r1, r2)) :
 Calls Try.prog 8 #[.slice A0 l0.length c0] w fun e w' => ∃ v0_ : Value, e = .returned (.tuple #[v0_, .bool r2]) ∧ Kd.S (Kd.slice 3 (Kd.int .i64)) 22 w' w.heap.size (fun _ => True) v0_ r1 ∧ Below w.heap.size w w' := by
 have HR0 := Aside0.mk hr0
 have HC0 := Aside0.mk hc0
 clear hr0 hc0
 have HB := Aside0.mk (Below.refl w.heap.size w)
 have H : ((impl_IsList.f k l0).bind fun t523 => (if t523 = true then ((impl_total.f k l0).bind fun t524 => (impl_LowerCovers.j0 k l0 (decide (t524 > 30)))) else (impl_LowerCovers.j0 k l0 true))) = some (r1, r2) := h
 clear h
 have HC2 := Aside0.mk H
 clear H
 go_enter Try.func8, Try.ntmps8
 go_upto_region 1 with (fail)
 go_cut [14] (fun v14 wc => ∃ (kq : Nat) (x14_1 : Bool), v14 = .bool x14_1 ∧ Aside0 (impl_LowerCovers.j0 kq l0 x14_1 = some (r1, r2)) ∧ Aside0 (kq ≤ k) ∧ Aside0 (Below w.heap.size w wc))
 case first =>
  have H := HC2.out
  clear HC2
  replace H := Option.bind_eq_some_iff.mp H
  obtain ⟨t523, A30, H⟩ := H
  replace H : (if t523 = true then ((impl_total.f k l0).bind fun t524 => (impl_LowerCovers.j0 k l0 (decide (t524 > 30)))) else (impl_LowerCovers.j0 k l0 true)) = some (r1, r2) := H
  have A3 := Aside0.mk A30
  clear A30
  by_cases c4 : t523 = true
  · subst c4
    have H1 : ((impl_total.f k l0).bind fun t524 => (impl_LowerCovers.j0 k l0 (decide (t524 > 30)))) = some (r1, r2) := by rw [if_pos rfl] at H; exact H
    clear H
    have H := H1
    clear H1
    replace H := Option.bind_eq_some_iff.mp H
    obtain ⟨t524, A50, H⟩ := H
    replace H : (impl_LowerCovers.j0 k l0 (decide (t524 > 30))) = some (r1, r2) := H
    have A5 := Aside0.mk A50
    clear A50
    have H' := Aside0.mk H
    clear H
    go_wp2_with (first | ((with_reducible refine gate_callee (f := 38) rfl ?_); refine goesL_ (some 8) rfl rfl Try.func38 (by kernel_rfl) rfl #[.slice A0 l0.length c0] rfl (by (try simp only [List.map_toArray, List.map_cons, List.map_nil]); first | done | rfl | (simp only [List.length_drop, List.length_take]; rfl)) ?_; (with_reducible refine (impl_IsList.calls k _ _ l0 true _ ?side1 ?side2 A3.out).mono ?_); (case side1 => repeat (first | exact (Kd.C_below HR0.out HB.out) | (with_reducible refine Kd.C_alloc ?_ _) | (with_reducible refine Kd.C_drewN ?_ _) | (with_reducible refine Kd.C_drew ?_))); (case side2 => exact HC0.out); rintro e w' ⟨rfl, ⟨nd, rfl⟩⟩; refine ⟨_, rfl, ?_⟩) | (go_at_call 39; (with_reducible refine (impl_total.calls k _ _ l0 t524 _ ?side1 ?side2 A5.out).mono ?_); (case side1 => repeat (first | exact (Kd.C_below HR0.out (by repeat (first | (with_reducible first | exact HB.out | apply below_alloc | apply pw_below_drewN | apply below_drew1) | exact HB.out))) | (with_reducible refine Kd.C_alloc ?_ _) | (with_reducible refine Kd.C_drewN ?_ _) | (with_reducible refine Kd.C_drew ?_))); (case side2 => exact HC0.out); rintro e w' ⟨rfl, ⟨nd, rfl⟩⟩))
    go_meet
    case rel => exact ⟨_, (decide (t524 > 30)), (by first | rfl | (simp; done) | (simp [*]; done)), H', ⟨by first | omega | exact Nat.le_refl _⟩, ⟨by repeat (first | (with_reducible first | exact HB.out | apply below_alloc | apply pw_below_drewN | apply below_drew1) | exact HB.out)⟩⟩
  · replace c4 := Bool.eq_false_iff.mpr c4
    subst c4
    have H1 : (impl_LowerCovers.j0 k l0 true) = some (r1, r2) := by rw [if_neg (show ¬ (false = true) by decide)] at H; exact H
    clear H
    have H := H1
    clear H1
    have H' := Aside0.mk H
    clear H
    go_wp2_with (first | ((with_reducible refine gate_callee (f := 38) rfl ?_); refine goesL_ (some 8) rfl rfl Try.func38 (by kernel_rfl) rfl #[.slice A0 l0.length c0] rfl (by (try simp only [List.map_toArray, List.map_cons, List.map_nil]); first | done | rfl | (simp only [List.length_drop, List.length_take]; rfl)) ?_; (with_reducible refine (impl_IsList.calls k _ _ l0 false _ ?side1 ?side2 A3.out).mono ?_); (case side1 => repeat (first | exact (Kd.C_below HR0.out HB.out) | (with_reducible refine Kd.C_alloc ?_ _) | (with_reducible refine Kd.C_drewN ?_ _) | (with_reducible refine Kd.C_drew ?_))); (case side2 => exact HC0.out); rintro e w' ⟨rfl, ⟨nd, rfl⟩⟩; refine ⟨_, rfl, ?_⟩))
    go_meet
    case rel => exact ⟨_, (true), (by first | rfl | (simp; done) | (simp [*]; done)), H', ⟨by first | omega | exact Nat.le_refl _⟩, ⟨by repeat (first | (with_reducible first | exact HB.out | apply below_alloc | apply pw_below_drewN | apply below_drew1) | exact HB.out)⟩⟩
 case rest =>
  clear HC2
  try clear c1
  try clear p2
  try clear c4
  obtain ⟨kq, x14_1, rfl, HA, HJ1, HB⟩ := hcut
  cases kq with
  | zero => exact absurd HA.out (by simp [impl_LowerCovers.j0])
  | succ kj1 =>
   have H := HA.out
   clear HA
   simp only [impl_LowerCovers.j0] at H
   by_cases c6 : x14_1 = true
   · subst c6
     have H1 : (some (([] : List (List Int)), false)) = some (r1, r2) := by rw [if_pos rfl] at H; exact H
     clear H
     have H := H1
     clear H1
     simp only [Option.some.injEq, Prod.mk.injEq] at H
     obtain ⟨rfl, rfl⟩ := H
     go_wp2
     go_ret2
     exact ⟨_, by first | rfl | (simp [errW_none, errW_some] <;> rfl) | (simp [*, errW_none, errW_some] <;> rfl), by first | exact Kd.S_nil _ _ _ _ _ | exact Kd.N_nil _ _ _ _ _ | exact Kd.V_nil _ _ _ _ _ | exact Kd.Q_nil _ _ _ _ _ | exact Kd.R_nil _ _ _ _ _, by repeat (first | (with_reducible first | exact HB.out | apply below_alloc | apply pw_below_drewN | apply below_drew1) | exact HB.out)⟩
   · replace c6 := Bool.eq_false_iff.mpr c6
     subst c6
     have H1 : ((impl_below.f kj1 l0).bind fun t528 => (if 1 ≤ (t528.length : Int) then ((some (t528.drop 1 : List (List Int))).bind fun y531 => (impl_LowerCovers.l0 kj1 (([] : List (List Int))) y531 (y531.length : Int) 0)) else (none))) = some (r1, r2) := by rw [if_neg (show ¬ (false = true) by decide)] at H; exact H
     clear H
     have H := H1
     clear H1
     obtain ⟨y525, hy525⟩ : ∃ y_ : List (List Int), y_ = (([] : List (List Int))) := ⟨_, rfl⟩
     replace H : ((impl_below.f kj1 l0).bind fun t528 => (if 1 ≤ (t528.length : Int) then ((some (t528.drop 1 : List (List Int))).bind fun y531 => (impl_LowerCovers.l0 kj1 y525 y531 (y531.length : Int) 0)) else (none))) = some (r1, r2) := by first | (rw [hy525]; with_reducible exact H) | (have H2_ := (Option.bind_some _ _).symm.trans H; rw [hy525]; with_reducible exact H2_) | (have H2_ := (Option.bind_some _ _).symm.trans H; with_reducible exact H2_) | with_reducible exact H | (rw [hy525]; exact H) | exact H
     have Ny525 := Aside0.mk hy525
     clear hy525
     replace H := Option.bind_eq_some_iff.mp H
     obtain ⟨t528, A70, H⟩ := H
     replace H : (if 1 ≤ (t528.length : Int) then ((some (t528.drop 1 : List (List Int))).bind fun y531 => (impl_LowerCovers.l0 kj1 y525 y531 (y531.length : Int) 0)) else (none)) = some (r1, r2) := H
     have A7 := Aside0.mk A70
     clear A70
     by_cases c8 : 1 ≤ (t528.length : Int)
     · rw [if_pos c8] at H
       have c8b0 := eq_true c8
       have c8b1 : decide (1 ≤ (t528.length : Int)) = true := decide_eq_true c8
       clear c8
       obtain ⟨y531, hy531⟩ : ∃ y_ : List (List Int), y_ = (t528.drop 1) := ⟨_, rfl⟩
       replace H : (impl_LowerCovers.l0 kj1 y525 y531 (y531.length : Int) 0) = some (r1, r2) := by first | (rw [hy531]; with_reducible exact H) | (have H2_ := (Option.bind_some _ _).symm.trans H; rw [hy531]; with_reducible exact H2_) | (have H2_ := (Option.bind_some _ _).symm.trans H; with_reducible exact H2_) | with_reducible exact H | (rw [hy531]; exact H) | exact H
       have Ny531 := Aside0.mk hy531
       clear hy531
       have H' := Aside0.mk H
       clear H
       go_wp2_with (first | ((with_reducible refine gate_dst (N := 15) rfl ?_); refine Kd.R_lit (Kd.raw 1) _ 22 ?hg (N := 15) ?hd (xs := ([] : List (List Value))) (inner := []) (ok := (fun k_ => (w.heap.size ≤ k_))) (okp := (fun k_ => (w.heap.size ≤ k_))) ?hr ?hp (fun _ hk => hk) ((show ∀ k_, wc.heap.size ≤ k_ → (fun k_ => (w.heap.size ≤ k_)) k_ from fun k_ hk => (Nat.le_trans (below_size (by repeat (first | (with_reducible first | exact HB.out | apply below_alloc | apply pw_below_drewN | apply below_drew1) | exact HB.out))) hk)) _ (Nat.le_refl _)) (Below.refl _ _) (Nat.le_refl _) (by simp) ?_; (case hd => rfl); (case hg => rfl); (case hr => first | (go_simp; done) | (go_simp; rfl)); (case hp => exact (Reps.none _ _)); intro v526 w9 ho10 hb hg_ hnew_; clear hg_ hnew_; have n0_ := Aside0.mk (Kd.R_lower ho10 (below_size (by repeat (first | (with_reducible first | exact HB.out | apply below_alloc | apply pw_below_drewN | apply below_drew1) | exact HB.out)))); have n1_ := Aside0.mk (below_step (by repeat (first | (with_reducible first | exact HB.out | apply below_alloc | apply pw_below_drewN | apply below_drew1) | exact HB.out)) hb); clear HB; have HO527 := n0_; have HB := n1_; clear n0_ n1_; clear hb ho10) | ((with_reducible refine gate_callee (f := 40) rfl ?_); refine goesL_ (some 17) rfl rfl Try.func40 (by kernel_rfl) rfl #[.slice A0 l0.length c0] rfl (by (try simp only [List.map_toArray, List.map_cons, List.map_nil]); first | done | rfl | (simp only [List.length_drop, List.length_take]; rfl)) ?_; (with_reducible refine (impl_below.calls kj1 _ _ l0 t528 _ ?side1 ?side2 A7.out).mono ?_); (case side1 => repeat (first | exact (Kd.C_below HR0.out HB.out) | (with_reducible refine Kd.C_alloc ?_ _) | (with_reducible refine Kd.C_drewN ?_ _) | (with_reducible refine Kd.C_drew ?_))); (case side2 => exact HC0.out); rintro e w11 ⟨v529, rfl, ho0, hb⟩; refine ⟨_, rfl, ?_⟩; obtain ⟨nA, hnA⟩ : ∃ n, n = w9.heap.size := ⟨_, rfl⟩; obtain ⟨n1, hn1⟩ : ∃ n, n = w11.heap.size := ⟨_, rfl⟩; rw [← hnA] at ho0; have hbA : w.heap.size ≤ nA := (by rw [hnA]; exact HB.out.size); have hA1 : nA ≤ n1 := (by rw [hnA, hn1]; exact hb.size); have HRW := Aside0.mk (show (Kd.raw 1).R 22 w11 w.heap.size (fun k => k < nA ∨ n1 ≤ k) v526 [] from Kd.R_mono (Kd.R_below (Kd.R_bound HO527.out) hb) (fun k hk => .inl (by have := hk.2.2.1; omega))); have HS := Aside0.mk (show Kd.S (Kd.slice 3 (Kd.int .i64)) 22 w11 nA (fun k => nA ≤ k ∧ k < n1) v529 t528 from Kd.S_mono (Kd.S_bound ho0) (fun k hk => ⟨hk.2.1, by have := hk.2.2.1; omega⟩)); have HB2 := Aside0.mk (below_step (by repeat (first | (with_reducible first | exact HB.out | apply below_alloc | apply pw_below_drewN | apply below_drew1) | exact HB.out)) hb); clear HO527 HB hb ho0; have HB := HB2; clear HB2; obtain ⟨blk, co13, cur, rfl, hblo, hbhi, hheap, hcsz, hroom12, hcmx, hrow⟩ := S_cells2 HS.out (by have := of_decide_eq_true c8b1; omega); have HCM := Aside0.mk hcmx; have HCS := Aside0.mk hcsz; have HRM := Aside0.mk hroom12; have HH := Aside0.mk hheap; have HROW := Aside0.mk hrow; have HKP := Aside0.mk (show Kp w11 w11 nA n1 from fun _ _ _ => rfl); have HN1 := Aside0.mk hn1; clear hheap hrow hnA hn1 hcmx hcsz; have q12 : (1 : Int) ≤ ((t528.length : Int) : Int) := of_decide_eq_true (by first | (with_reducible assumption) | assumption); obtain ⟨i012, hi012, _, hsz12, _⟩ := info_parts info22; have hcut12 := cut_from (P := Try.prog) 23 22 .i64 Try.underlying23 hi012 1 hsz12 (some ⟨blk, 0, none⟩) t528.length co13 1 (by omega) q12; obtain ⟨A12, hA12⟩ : ∃ A1, A1 = (if co13 = (1 : Int).toNat then (some ⟨blk, 0, none⟩ : Option Addr) else (some ⟨blk, 0, none⟩ : Option Addr).map (·.add ((1 : Int).toNat * 1))) := ⟨_, rfl⟩; obtain ⟨c12, hc12⟩ : ∃ c1, c1 = co13 - (1 : Int).toNat := ⟨_, rfl⟩; have hy12 : y531.length = t528.length - (1 : Int).toNat := (by rw [Ny531.out, List.length_drop] <;> omega); rw [← hy12, ← hA12, ← hc12] at hcut12; have H12 := Aside0.mk (show ∀ j, j < y531.length → ∃ ad, A12 = some ad ∧ ad.add j = ⟨blk, j + 1, none⟩ from fun j hj => tail_addr hA12 (by omega)); clear hi012 hsz12 hc12; have KY12 := Aside0.mk hy12; clear hy12 hA12; clear hroom12; replace q12 := eq_true q12))
       go_loopg [4, 20] kj1 (fun kq v4 v20 w' => ∃ (ps : List Nat) (i : Nat), v20 = .int .i64 (i : Int) ∧ Aside0 (impl_LowerCovers.l0 kq (ps.map fun p => t528[p]!) y531 (y531.length : Int) (i : Int) = some (r1, r2)) ∧ Aside0 (kq ≤ kj1) ∧ Aside0 ((Kd.raw 1).R 22 w' w.heap.size (fun k => k < nA ∨ n1 ≤ k) v4 (ps.map fun p => [cur[p]!])) ∧ Aside0 (Kp w11 w' nA n1) ∧ Aside0 (ps.Pairwise (· < ·) ∧ (∀ p ∈ ps, p ≤ i ∧ p < t528.length) ∧ i ≤ y531.length) ∧ Aside0 (Below w.heap.size w w') ∧ Aside0 (n1 ≤ w'.heap.size))
       case atStart => exact ⟨[], 0, rfl, ⟨by have h := H'.out; rw [Ny525.out] at h; exact h⟩, ⟨Nat.le_refl _⟩, ⟨HRW.out⟩, ⟨HKP.out⟩, ⟨List.Pairwise.nil, by simp, Nat.zero_le _⟩, ⟨HB.out⟩, ⟨Nat.le_of_eq HN1.out⟩⟩
       case round =>
        clear H' HRW HKP HB
        try clear c4
        try clear c6
        try clear c8b0
        try clear c8b1
        obtain ⟨ps, i, rfl, HA, HK2, HRW, HKP, HPS, HB, HNW⟩ := hrel
        have hy := KY12.out
        have hroom12 := HRM.out
        have hcsz := HCS.out
        simp only [Int.reduceToNat] at hy
        cases gk with
        | zero => exact absurd HA.out (by simp [impl_LowerCovers.l0])
        | succ k2 =>
         have H := HA.out
         clear HA
         simp only [impl_LowerCovers.l0] at H
         by_cases c14 : (i : Int) < (y531.length : Int)
         · rw [if_pos c14, if_pos (Int.natCast_nonneg i), if_pos c14] at H
           obtain ⟨t537, A170, H⟩ := Option.bind_eq_some_iff.mp H
           have hin : i + 1 < t528.length := by omega
           have HIL := Aside0.mk (show i + 1 ≤ y531.length by omega)
           obtain ⟨ad12, hA12, had⟩ := H12.out i (by omega)
           obtain ⟨Ab, cb, hcur, hbl, hbC⟩ := HROW.out (i + 1) hin
           have heq : t528[i + 1]! = rd_L1 y531 (i : Int) := tail_get Ny531.out (by omega)
           rw [heq] at hcur hbl hbC
           have hx : wr.cell? (ad12.add i) = some (.slice Ab (rd_L1 y531 (i : Int)).length cb) := by
            rw [had, ← hcur]
            have hb2 : wr.heap[blk]? = some (.cells cur 22 (0, 0)) := (HKP.out blk hblo hbhi).trans HH.out
            rw [blk_cell hb2 (i + 1), getElem!_pos cur (i + 1) (by omega), Array.getElem?_eq_getElem (by omega)]
           subst hA12
           have HBC := Aside0.mk (hbC wr HKP.out)
           have HBL := Aside0.mk hbl
           have HEQ := Aside0.mk heq
           have HCUR := Aside0.mk hcur
           have hw := succ_w (show i < y531.length by omega) (Nat.le_trans (Nat.le_trans (show y531.length ≤ t528.length by omega) HRM.out) HCM.out)
           obtain ⟨A4, c4, hu4, hle4, hC4⟩ := raw_C (i := 3) HRW.out (xs := ps.map fun p => t528[p]!) (by simp) (pick_K fun p hp => by
            obtain ⟨A, c, h1, h2, h3⟩ := HROW.out p (HPS.out.2.1 p hp).2
            exact ⟨A, c, h1, h2, h3 wr HKP.out⟩)
           rw [hw] at H
           generalize hout : (ps.map fun p => t528[p]!) = out at A170 H hu4 hle4 hC4
           subst hu4
           have A17 := Aside0.mk A170
           have HC4 := Aside0.mk hC4
           have HL4 := Aside0.mk hle4
           have HOUT := Aside0.mk hout.symm
           have c14b0 : decide ((i : Int) < (y531.length : Int)) = true := decide_eq_true c14
           have p536 := eq_true (Int.natCast_nonneg i)
           have q536 := eq_true c14
           have HIN := Aside0.mk hin
           have HW := Aside0.mk hw
           clear hy hroom12 hcsz A170 hC4 hle4 hout hcur hbl hbC heq had hw hin c14
           cases t537 with
           | true =>
            simp only [if_true] at H
            have H' := Aside0.mk H
            clear H
            go_wp2_with (go_at_call 41; (refine (covHas_calls k2 wr.heap.size Ab cb (rd_L1 y531 (i : Int)) A4 c4 out true _ ?s1 ?s2 ?s3 ?s4 ?s5 A17.out).mono ?_); (case s1 => simp [go_sem]); (case s2 => exact Kd.C_below HBC.out (by repeat (first | exact Below.refl _ _ | apply below_alloc | apply pw_below_drewN | apply below_drew1))); (case s3 => exact HBL.out); (case s4 => exact Kd.C_below HC4.out (by repeat (first | exact Below.refl _ _ | apply below_alloc | apply pw_below_drewN | apply below_drew1))); (case s5 => exact HL4.out); rintro e w3 ⟨rfl, hb⟩; have hbw : Below wr.heap.size wr w3 := below_step (by repeat (first | exact Below.refl _ _ | apply below_alloc | apply pw_below_drewN | apply below_drew1)) hb; have HB2 := Aside0.mk (below_step HB.out hbw); have HRW2 := Aside0.mk (Kd.R_below HRW.out hbw); have HKP2 := Aside0.mk (kp_step HKP.out hbw HNW.out); have HNW2 := Aside0.mk (Nat.le_trans HNW.out hbw.size); clear hb hbw HB HRW HKP HNW HC4 HBC)
            go_roundg k2
            case measure => have := HK2.out; omega
            case rel => exact ⟨ps, i + 1, by first | rfl | rw [HW.out], ⟨by rw [← HOUT.out]; exact H'.out⟩, ⟨by have := HK2.out; omega⟩, ⟨HRW2.out⟩, ⟨HKP2.out⟩, ⟨HPS.out.1, fun p hp => ⟨by have := (HPS.out.2.1 p hp).1; omega, (HPS.out.2.1 p hp).2⟩, HIL.out⟩, ⟨HB2.out⟩, ⟨HNW2.out⟩⟩
           | false =>
            simp only [Bool.false_eq_true, if_false] at H
            by_cases c20 : out.length < 5864062014805
            · rw [if_pos c20] at H
              have LMc20 := Aside0.mk c20
              have H' := Aside0.mk H
              clear H c20
              obtain ⟨RW, hRW⟩ : ∃ R, R = (ps.map fun p => [cur[p]!]) := ⟨_, rfl⟩
              have HRL := Aside0.mk (show RW.length = out.length by rw [hRW, HOUT.out]; simp)
              have HRWE := Aside0.mk hRW
              rw [← hRW] at HRW
              clear hRW
              go_wp2_with (first | (go_at_call 41; (refine (covHas_calls k2 wr.heap.size Ab cb (rd_L1 y531 (i : Int)) A4 c4 out false _ ?s1 ?s2 ?s3 ?s4 ?s5 A17.out).mono ?_); (case s1 => simp [go_sem]); (case s2 => exact Kd.C_below HBC.out (by repeat (first | exact Below.refl _ _ | apply below_alloc | apply pw_below_drewN | apply below_drew1))); (case s3 => exact HBL.out); (case s4 => exact Kd.C_below HC4.out (by repeat (first | exact Below.refl _ _ | apply below_alloc | apply pw_below_drewN | apply below_drew1))); (case s5 => exact HL4.out); rintro e w3 ⟨rfl, hb⟩; have x0 := tab_bx hb (B := wr.heap.size) (v := .slice Ab (rd_L1 y531 (i : Int)).length cb) (by simp [go_sem]) (by first | (simp; done) | (simp; omega)); have hbw : Below wr.heap.size wr w3 := below_step (by repeat (first | exact Below.refl _ _ | apply below_alloc | apply pw_below_drewN | apply below_drew1)) hb; have HB2 := Aside0.mk (below_step HB.out hbw); have HRW2 := Aside0.mk (Kd.R_below HRW.out hbw); have HKP2 := Aside0.mk (kp_step HKP.out hbw HNW.out); have HNW2 := Aside0.mk (Nat.le_trans HNW.out hbw.size); clear hb hbw HB HRW HKP HNW HC4 HBC) | ((with_reducible refine gate_builtin (b := .append) (xs := #[.tmp 28, .tmp 30]) rfl ?_); at_builtin; refine Kd.R_append (Kd.raw 1) (w0 := w) w.heap.size rfl (.tmp 28) (.tmp 30) 23 22 (.slice none 0 0) 24 rfl Try.underlying23 info22 rfl (by decide) (by omega) (.slice A4 out.length c4) RW [.slice Ab (rd_L1 y531 (i : Int)).length cb] [.slice Ab (rd_L1 y531 (i : Int)).length cb] (fun k => k < nA ∨ n1 ≤ k) (fun _ => False) rfl rfl ?aP (fun _ hk => hk.elim) ?aF ?aO ?aB ?aS ?aL ?_; (case aP => exact ⟨rfl, rfl, by intro u hu; rw [List.mem_singleton.1 hu]; rfl⟩); (case aF => exact fun k hk => .inr (Nat.le_trans HNW2.out hk)); (case aO => exact HRW2.out); (case aB => exact HB2.out); (case aS => exact HB2.out.size); (case aL => have := LMc20.out; have := HRL.out; omega); intro v539 w22 ho hb hg hat; have HKP3 := Aside0.mk (show Kp w11 w22 nA n1 from fun k h1 h2 => (hg.block k (by have := HNW2.out; omega) (fun he => by have := HRW2.out.1 k he.symm; omega)).trans (HKP2.out k h1 h2)); have HRW3 := Aside0.mk ho; have HB3 := Aside0.mk hb; have HNW3 := Aside0.mk (Nat.le_trans HNW2.out hg.size); clear ho hb hg hat HRW2 HB2 HKP2 HNW2))
              go_roundg k2
              case measure => have := HK2.out; omega
              case rel => exact ⟨ps ++ [i + 1], i + 1, by first | rfl | rw [HW.out], ⟨by rw [List.map_append, ← HOUT.out, List.map_singleton, HEQ.out]; exact H'.out⟩, ⟨by have := HK2.out; omega⟩, ⟨by rw [List.map_append, ← HRWE.out, List.map_singleton, HCUR.out]; exact HRW3.out⟩, ⟨HKP3.out⟩, ⟨List.pairwise_append.2 ⟨HPS.out.1, List.pairwise_singleton _ _, fun a ha b hb => by rw [List.mem_singleton.1 hb]; have := (HPS.out.2.1 a ha).1; omega⟩, fun p hp => by
               rcases List.mem_append.1 hp with hp | hp
               · exact ⟨by have := (HPS.out.2.1 p hp).1; omega, (HPS.out.2.1 p hp).2⟩
               · rw [List.mem_singleton.1 hp]; exact ⟨Nat.le_refl _, HIN.out⟩, HIL.out⟩, ⟨HB3.out⟩, ⟨HNW3.out⟩⟩
            · rw [if_neg c20] at H
              exact absurd H (by simp)
         · rw [if_neg c14] at H
           have c14b0 : decide ((i : Int) < (y531.length : Int)) = false := decide_eq_false c14
           have c14n : ¬ i < y531.length := by omega
           have c14b1 : decide (i < y531.length) = false := decide_eq_false c14n
           simp only [Option.some.injEq, Prod.mk.injEq] at H
           obtain ⟨hr1, rfl⟩ := H
           have HR1 := Aside0.mk hr1
           clear hr1
           go_wp2
           go_ret2
           refine ⟨_, rfl, ?_, HB.out⟩
           rw [← HR1.out]
           exact S_pick rfl (Kd.S_step HS.out (fun k hk _ => HKP.out k hk.1 hk.2)) ((HKP.out blk hblo hbhi).trans HH.out) (HPS.out.1.imp fun h => Nat.ne_of_lt h) (fun p hp => (HPS.out.2.1 p hp).2) HRW.out hbA
     · rw [if_neg c8] at H
       exact absurd H (by simp)
end Go.Proofs.Ytdkimdlbjeobiaa.A

/- markIntSS: what it writes into rows of rows that lie apart. -/
namespace Go.Proofs.Ytdkimdlbjeobiaa.A
open Go.RowKit Go.Proofs.YtdkimdlbjeobiaaW.PrintWords Go.Proofs.YtdkimdlbjeobiaaW.PrintLast Go.Proofs.YtdkimdlbjeobiaaW.PrintMore
attribute [local go_sem] max2_int min2_int max_two min_two max_three min_three max_four min_four
set_option linter.unusedVariables false
set_option linter.unusedSimpArgs false

def mks (a : Int) (n : Nat) : List Int := (List.range n).map fun (j : Nat) => a + (j : Int)
def totSS (l : List (List Int)) : Nat := (l.map List.length).sum
def markSS : Int → List (List Int) → List (List Int)
 | _, [] => []
 | a, x :: l => mks a x.length :: markSS (a + (x.length : Int)) l
theorem totSS_append (x y : List (List Int)) : totSS (x ++ y) = totSS x + totSS y := by simp [totSS]
theorem totSS_take {l : List (List Int)} {i : Nat} (h : i < l.length) : totSS (l.take (i + 1)) = totSS (l.take i) + (l[i]).length := by
 rw [List.take_succ_eq_append_getElem h, totSS_append]
 simp [totSS]
theorem totSS_le (l : List (List Int)) (i : Nat) : totSS (l.take i) ≤ totSS l := by
 have h := totSS_append (l.take i) (l.drop i)
 rw [List.take_append_drop] at h
 omega
theorem markSS_length : ∀ (a : Int) (l : List (List Int)), (markSS a l).length = l.length
 | _, [] => rfl
 | a, x :: l => by simp [markSS, markSS_length _ l]
theorem markSS_append : ∀ (a : Int) (x y : List (List Int)), markSS a (x ++ y) = markSS a x ++ markSS (a + (totSS x : Int)) y
 | a, [], y => by simp [markSS, totSS]
 | a, z :: x, y => by
  have e : a + (z.length : Int) + (totSS x : Int) = a + (totSS (z :: x) : Int) := by simp [totSS]; omega
  rw [List.cons_append, markSS, markSS_append, markSS, e, List.cons_append]
theorem markSS_step (a : Int) (l : List (List Int)) (i : Nat) (h : i < l.length) : (markSS a (l.take i) ++ l.drop i).set i (mks (a + (totSS (l.take i) : Int)) (l[i]).length) = markSS a (l.take (i + 1)) ++ l.drop (i + 1) := by
 have hl : (markSS a (l.take i)).length = i := by rw [markSS_length, List.length_take]; omega
 rw [List.set_append_right _ _ (by omega), hl, Nat.sub_self, List.drop_eq_getElem_cons h, List.set_cons_zero, List.take_succ_eq_append_getElem h, markSS_append, List.append_assoc]
 rfl
theorem markSS_at (a : Int) (l : List (List Int)) (i : Nat) (h : i < l.length) : (markSS a (l.take i) ++ l.drop i).getD i [] = l[i] := by
 have hl : (markSS a (l.take i)).length = i := by rw [markSS_length, List.length_take]; omega
 rw [List.getD_eq_getElem?_getD, List.getElem?_append_right (by omega), hl, Nat.sub_self, List.getElem?_drop, Nat.add_zero, List.getElem?_eq_getElem h]
 rfl
set_option maxHeartbeats 4000000 in
set_option maxRecDepth 100000 in
theorem markSS_calls (hm : ∀ (xs : List Int) (a : Int), 0 ≤ a → a + (xs.length : Int) ≤ 9223372036854775807 → ∃ k, laws_markIntS.f k xs a = some (a + (xs.length : Int), mks a xs.length)) (P : Nat → Prop) (v : Value) (xs : List (List Int)) (a : Int) (w W : World) (h0 : 0 ≤ a) (hbig : a + (totSS xs : Int) ≤ 4611686018427387903) (hxl : xs.length ≤ 4611686018427387903) (hB : Below w.heap.size w W) (hS : Kd.S (Kd.slice 3 (Kd.int .i64)) 22 W w.heap.size P v xs) :
 Calls Try.prog 12 #[v, .int .i64 a] W fun e w' => e = .returned (.int .i64 (a + (totSS xs : Int))) ∧ Kd.S (Kd.slice 3 (Kd.int .i64)) 22 w' w.heap.size P v (markSS a xs) ∧ Below w.heap.size w w' ∧ Kept W w' P := by
 obtain ⟨A, c, rfl⟩ := Kd.S_slice hS
 go_enter Try.func12, Try.ntmps12
 go_wp2
 go_loopg [1, 5] xs.length (fun g v1 v5 wr => ∃ i : Nat, i ≤ xs.length ∧ xs.length - i ≤ g ∧ v1 = .int .i64 (a + (totSS (xs.take i) : Int)) ∧ v5 = .int .i64 (i : Int) ∧ Aside0 (Kd.S (Kd.slice 3 (Kd.int .i64)) 22 wr w.heap.size P (.slice A xs.length c) (markSS a (xs.take i) ++ xs.drop i)) ∧ Aside0 (Below w.heap.size w wr) ∧ Aside0 (Kept W wr P))
 case atStart => exact ⟨0, Nat.zero_le _, by omega, by simp [totSS], rfl, ⟨by (with_reducible repeat (first | apply Kd.S_alloc | apply Kd.S_drewN | apply Kd.S_drew)); simpa [markSS] using hS⟩, ⟨by repeat (first | (with_reducible first | exact hB | apply below_alloc | apply pw_below_drewN | apply below_drew1) | exact hB)⟩, ⟨by repeat (first | exact Kept.refl _ _ | apply Kept.drewN | apply Kept.drew)⟩⟩
 case round =>
  obtain ⟨i, hi, hg, rfl, rfl, HS, HB, HK⟩ := hrel
  by_cases hlt : i < xs.length
  · have c0 : decide ((i : Int) < (xs.length : Int)) = true := decide_eq_true (by omega)
    have hlen : (markSS a (xs.take i) ++ xs.drop i).length = xs.length := by rw [List.length_append, markSS_length, List.length_take, List.length_drop]; omega
    obtain ⟨g, cap, he, _⟩ := Kd.S_form HS.out (by omega)
    injection he with he1 he2 he3
    subst he1
    obtain ⟨oki, cc, hcl, ⟨vi, hcc, hR⟩, hcell, hoki, hH⟩ := Kd.S_lend HS.out [] (i : Int) (by omega) (by omega)
    subst hcc
    rw [Int.toNat_natCast, markSS_at a xs i hlt] at hR
    have hce := hcell 0 vi rfl
    rw [Int.toNat_natCast] at hce
    have hsz : (Kd.slice 3 (Kd.int .i64)).sz = 1 := rfl
    rw [hsz, Nat.mul_one, Nat.add_zero] at hce
    have hle := totSS_le xs (i + 1)
    rw [totSS_take hlt] at hle
    obtain ⟨k, hk⟩ := hm xs[i] (a + (totSS (xs.take i) : Int)) (by omega) (by omega)
    obtain ⟨Ai, ci, rfl⟩ := Kd.R_slice hR
    have HR := Aside0.mk hR
    have HH := Aside0.mk hH
    have HO := Aside0.mk hoki
    have HKK := Aside0.mk hk
    have p0 : (0 ≤ (i : Int)) = True := eq_true (by omega)
    have q0 : ((i : Int) < (xs.length : Int)) = True := eq_true (by omega)
    clear hR hH hoki hk hcell hlen hle hcl hsz hS hB he2 he3
    go_wp2_with (first | ((with_reducible refine gate_callee (f := 11) rfl ?_); refine goesL_ (some 17) rfl rfl Try.func11 (by kernel_rfl) rfl #[.slice Ai xs[i].length ci, .int .i64 (a + (totSS (xs.take i) : Int))] rfl (by (try simp only [List.map_toArray, List.map_cons, List.map_nil]); first | done | rfl) ?_; (with_reducible refine (laws_markIntS.calls k oki _ xs[i] _ _ _ w _ ?side1 ?side2 HKK.out).mono ?_); (case side1 => repeat (first | (with_reducible first | exact HB.out | apply below_alloc | apply pw_below_drewN | apply below_drew1) | exact HB.out)); (case side2 => (with_reducible repeat (first | apply Kd.R_alloc | apply Kd.R_drewN | apply Kd.R_drew)); exact HR.out); rintro e w27 ⟨rfl, hR2, hb2, hk2⟩; refine ⟨_, rfl, ?_⟩; have HM := Aside0.mk (Kd.R_mono (Kd.R_tight rfl hR2) (fun k hk => HR.out.1 k hk.symm)); have HH2 := Aside0.mk (Kd.H_step (by (with_reducible repeat (first | apply Kd.H_alloc | apply Kd.H_drewN | apply Kd.H_drew)); exact HH.out) (fun k hok hno hlt => hk2.2 k hlt hno)); have HK2 := Aside0.mk (Kept.then_ (by (with_reducible repeat (first | apply Kept.alloc | apply Kept.drewN | apply Kept.drew)); exact HK.out) hk2 (fun k hk => .inl (HO.out k hk).1)); have HB2 := Aside0.mk hb2; clear hR2 hb2 hk2))


    go_roundg (xs.length - (i + 1))
    case measure => omega
    case rel =>
     have hS2 := Kd.H_back HH2.out (x' := mks (a + (totSS (xs.take i) : Int)) xs[i].length) (okp := oki) ⟨_, rfl, HM.out⟩ (fun _ h => h)
     rw [Int.toNat_natCast, markSS_step a xs i hlt] at hS2
     exact ⟨i + 1, by omega, by omega, by rw [totSS_take hlt]; first | (congr 1; omega) | (congr 2; omega), by first | rfl | (rw [show wrap64 ((i : Int) + 1) = ((i + 1 : Nat) : Int) from by rw [wrap64]; omega]) , ⟨by (with_reducible repeat (first | apply Kd.S_alloc | apply Kd.S_drewN | apply Kd.S_drew)); exact hS2⟩, ⟨by repeat (first | (with_reducible first | exact HB2.out | apply below_alloc | apply pw_below_drewN | apply below_drew1) | exact HB2.out)⟩, ⟨by (with_reducible repeat (first | apply Kept.alloc | apply Kept.drewN | apply Kept.drew)); exact HK2.out⟩⟩
  · have hi' : i = xs.length := by omega
    have c0 : decide ((i : Int) < (xs.length : Int)) = false := decide_eq_false (by omega)
    subst hi'
    have HS' : Kd.S (Kd.slice 3 (Kd.int .i64)) 22 wr w.heap.size P (.slice A xs.length c) (markSS a xs) := by
     have := HS.out
     rw [List.take_of_length_le (Nat.le_refl _), List.drop_eq_nil_of_le (Nat.le_refl _), List.append_nil] at this
     exact this
    go_wp2
    go_ret
    exact ⟨by (try rw [List.take_of_length_le (Nat.le_refl _)]); rfl, HS', HB.out, HK.out⟩
end Go.Proofs.Ytdkimdlbjeobiaa.A

-- made by a program of this repo (wip/pp.py) through the kit's printer
namespace Go.Proofs.Ytdkimdlbjeobiaa.A
open Go.RowKit Go.Proofs.YtdkimdlbjeobiaaW.PrintWords Go.Proofs.YtdkimdlbjeobiaaW.PrintLast Go.Proofs.YtdkimdlbjeobiaaW.PrintMore
attribute [local go_sem] max2_int min2_int max_two min_two max_three min_three max_four min_four
set_option linter.unusedVariables false
set_option linter.unusedSimpArgs false

/-! ### spec_liGood: function 31 -/
def spec_liGood.f (k : Nat) (l0 : List Int) : Option (Bool) := (spec_l1In.f (l0.length : Int) 1 8).bind fun t103 => (if t103 = true then ((spec_l1All.f k l0 0 60).bind fun t104 => (some t104)) else (some false))
set_option maxHeartbeats 8000000 in
set_option maxRecDepth 100000 in
theorem spec_liGood.calls (k : Nat) (A0 : Option Addr) (c0 : Nat) (l0 : List Int) (r : Bool) (w : World) (hr0 : Kd.C (Kd.int .i64) w A0 l0.length l0) (hc0 : l0.length ≤ c0) (h : spec_liGood.f k l0 = some r) :
 Calls Try.prog 31 #[.slice A0 l0.length c0] w fun e w' => e = .returned (.bool r) ∧ Drawn0 w w' := by
 have HR0 := Aside0.mk hr0
 have HC0 := Aside0.mk hc0
 clear hr0 hc0
 have H : ((spec_l1In.f (l0.length : Int) 1 8).bind fun t103 => (if t103 = true then ((spec_l1All.f k l0 0 60).bind fun t104 => (some t104)) else (some false))) = some r := h
 clear h
 replace H := Option.bind_eq_some_iff.mp H
 obtain ⟨t103, A20, H⟩ := H
 replace H : (if t103 = true then ((spec_l1All.f k l0 0 60).bind fun t104 => (some t104)) else (some false)) = some r := H
 have A2 := Aside0.mk A20
 clear A20
 by_cases c3 : t103 = true
 · subst c3
   have H1 : ((spec_l1All.f k l0 0 60).bind fun t104 => (some t104)) = some r := by rw [if_pos rfl] at H; exact H
   clear H
   have H := H1
   clear H1
   replace H := Option.bind_eq_some_iff.mp H
   obtain ⟨t104, A40, H⟩ := H
   replace H : (some t104) = some r := H
   have A4 := Aside0.mk A40
   clear A40
   obtain rfl := Option.some.inj H
   go_enter Try.func31, Try.ntmps31
   go_wp2_with (first | ((with_reducible refine gate_callee (f := 66) rfl ?_); refine goesL_ (some 5) rfl rfl Try.func66 (by kernel_rfl) rfl #[.int .i64 (l0.length : Int), .int .i64 1, .int .i64 8] rfl (by (try simp only [List.map_toArray, List.map_cons, List.map_nil]); first | done | rfl | (simp only [List.length_drop, List.length_take]; rfl)) ?_; (with_reducible refine (spec_l1In.calls (l0.length : Int) 1 8 true _ A2.out).mono ?_); rintro e w' ⟨rfl, ⟨nd, rfl⟩⟩; refine ⟨_, rfl, ?_⟩) | (go_at_call 68; (with_reducible refine (spec_l1All.calls k _ _ l0 0 60 t104 _ ?side1 ?side2 A4.out).mono ?_); (case side1 => repeat (first | exact HR0.out | (with_reducible refine Kd.C_alloc ?_ _) | (with_reducible refine Kd.C_drewN ?_ _) | (with_reducible refine Kd.C_drew ?_))); (case side2 => exact HC0.out); rintro e w' ⟨rfl, ⟨nd, rfl⟩⟩))
   go_ret
   exact ⟨by first | rfl | (simp; done) | (simp [*]; done), by repeat (first | exact Drawn0.refl _ | apply Drawn0.step)⟩
 · replace c3 := Bool.eq_false_iff.mpr c3
   subst c3
   have H1 : (some false) = some r := by rw [if_neg (show ¬ (false = true) by decide)] at H; exact H
   clear H
   have H := H1
   clear H1
   obtain rfl := Option.some.inj H
   go_enter Try.func31, Try.ntmps31
   go_wp2_with (first | ((with_reducible refine gate_callee (f := 66) rfl ?_); refine goesL_ (some 5) rfl rfl Try.func66 (by kernel_rfl) rfl #[.int .i64 (l0.length : Int), .int .i64 1, .int .i64 8] rfl (by (try simp only [List.map_toArray, List.map_cons, List.map_nil]); first | done | rfl | (simp only [List.length_drop, List.length_take]; rfl)) ?_; (with_reducible refine (spec_l1In.calls (l0.length : Int) 1 8 false _ A2.out).mono ?_); rintro e w' ⟨rfl, ⟨nd, rfl⟩⟩; refine ⟨_, rfl, ?_⟩))
   go_ret
   exact ⟨by first | rfl | (simp; done) | (simp [*]; done), by repeat (first | exact Drawn0.refl _ | apply Drawn0.step)⟩

end Go.Proofs.Ytdkimdlbjeobiaa.A

-- made by a program of this repo (wip/pp.py) through the kit's printer
namespace Go.Proofs.Ytdkimdlbjeobiaa.A
open Go.RowKit Go.Proofs.YtdkimdlbjeobiaaW.PrintWords Go.Proofs.YtdkimdlbjeobiaaW.PrintLast Go.Proofs.YtdkimdlbjeobiaaW.PrintMore
attribute [local go_sem] max2_int min2_int max_two min_two max_three min_three max_four min_four
set_option linter.unusedVariables false
set_option linter.unusedSimpArgs false

/-! ### spec_liSum: function 32 -/
def spec_liSum.l0 : Nat → Int → List Int → Int → Int → Option (Int)
 | 0, _, _, _, _ => none
 | k + 1, x3, x6, x7, x8 => if x8 < x7 then (if 0 ≤ x8 then (if x8 < (x6.length : Int) then (spec_liSum.l0 k (wrap64 (x3 + (rd x6 x8))) x6 x7 (wrap64 (x8 + 1))) else (none)) else (none)) else (some x3)
def spec_liSum.f (k : Nat) (l0 : List Int) : Option (Int) := spec_liSum.l0 k 0 l0 (l0.length : Int) 0
set_option maxHeartbeats 8000000 in
set_option maxRecDepth 100000 in
theorem spec_liSum.calls (k : Nat) (A0 : Option Addr) (c0 : Nat) (l0 : List Int) (r : Int) (w : World) (hr0 : Kd.C (Kd.int .i64) w A0 l0.length l0) (hc0 : l0.length ≤ c0) (h : spec_liSum.f k l0 = some r) :
 Calls Try.prog 32 #[.slice A0 l0.length c0] w fun e w' => e = .returned (.int .i64 r) ∧ Drawn0 w w' := by
 have HR0 := Aside0.mk hr0
 have HC0 := Aside0.mk hc0
 clear hr0 hc0
 have H : (spec_liSum.l0 k 0 l0 (l0.length : Int) 0) = some r := h
 clear h
 have H' := Aside0.mk H
 clear H
 go_enter Try.func32, Try.ntmps32
 go_wp2
 go_loopg [3, 8] k (fun kq v3 v8 w' => ∃ (x3_1 : Int) (x8_1 : Int), v3 = .int .i64 x3_1 ∧ v8 = .int .i64 x8_1 ∧ Aside0 (spec_liSum.l0 kq x3_1 l0 (l0.length : Int) x8_1 = some r) ∧ Aside0 (kq ≤ k) ∧ Drawn0 w w')
 case atStart => exact ⟨(0), (0), (by first | rfl | (simp; done) | (simp [*]; done)), (by first | rfl | (simp; done) | (simp [*]; done)), H', ⟨Nat.le_refl _⟩, by repeat (first | exact Drawn0.refl _ | apply Drawn0.step)⟩
 case round =>
  clear H'
  obtain ⟨x3_1, x8_1, rfl, rfl, HA, HK1, ⟨m1, rfl⟩⟩ := hrel
  cases gk with
  | zero => exact absurd HA.out (by simp [spec_liSum.l0])
  | succ k1 =>
   have H := HA.out
   clear HA
   simp only [spec_liSum.l0] at H
   by_cases c2 : x8_1 < (l0.length : Int)
   · rw [if_pos c2] at H
     have c2b0 : decide (x8_1 < (l0.length : Int)) = true := decide_eq_true c2
     clear c2
     by_cases c3 : 0 ≤ x8_1
     · rw [if_pos c3] at H
       have c3b0 : decide (0 ≤ x8_1) = true := decide_eq_true c3
       clear c3
       by_cases c4 : x8_1 < (l0.length : Int)
       · rw [if_pos c4] at H
         have c4b0 : decide (x8_1 < (l0.length : Int)) = true := decide_eq_true c4
         clear c4
         have H' := Aside0.mk H
         clear H
         have p105 : 0 ≤ (x8_1 : Int) := of_decide_eq_true (by first | (with_reducible assumption) | assumption)
         have q105 : x8_1 < (l0.length : Int) := of_decide_eq_true (by first | (with_reducible assumption) | assumption)
         obtain ⟨ad105, e105, hx105_0⟩ := Kd.at_int HR0.out x8_1 p105 q105
         cases e105
         replace p105 := eq_true p105
         replace q105 := eq_true q105
         go_wp2
         go_roundg k1
         case measure => have := HK1.out; omega
         case rel => exact ⟨(wrap64 (x3_1 + (rd l0 x8_1))), (wrap64 (x8_1 + 1)), (by first | rfl | (simp; done) | (simp [*]; done)), (by first | rfl | (simp; done) | (simp [*]; done)), H', ⟨by have := HK1.out; omega⟩, by repeat (first | exact Drawn0.refl _ | apply Drawn0.step)⟩
       · rw [if_neg c4] at H
         exact absurd H (by simp)
     · rw [if_neg c3] at H
       exact absurd H (by simp)
   · rw [if_neg c2] at H
     have c2b0 : decide (x8_1 < (l0.length : Int)) = false := decide_eq_false c2
     clear c2
     obtain rfl := Option.some.inj H
     go_wp2
     go_ret
     exact ⟨by first | rfl | (simp; done) | (simp [*]; done), by repeat (first | exact Drawn0.refl _ | apply Drawn0.step)⟩

end Go.Proofs.Ytdkimdlbjeobiaa.A

-- made by a program of this repo (wip/pp.py) through the kit's printer
namespace Go.Proofs.Ytdkimdlbjeobiaa.A
open Go.RowKit Go.Proofs.YtdkimdlbjeobiaaW.PrintWords Go.Proofs.YtdkimdlbjeobiaaW.PrintLast Go.Proofs.YtdkimdlbjeobiaaW.PrintMore
attribute [local go_sem] max2_int min2_int max_two min_two max_three min_three max_four min_four
set_option linter.unusedVariables false
set_option linter.unusedSimpArgs false

/-! ### spec_l1Own: function 69 -/
def spec_l1Own.f (l0 : List Int) : Option (List Int) := (some (([] : List Int) : List Int)).bind fun y106 => (if y106.length + l0.length < 17592186044416 then (some (y106 ++ l0)) else (none))
set_option maxHeartbeats 8000000 in
set_option maxRecDepth 100000 in
theorem spec_l1Own.calls (A0 : Option Addr) (c0 : Nat) (l0 : List Int) (r : List Int) (w : World) (hr0 : Kd.C (Kd.int .i64) w A0 l0.length l0) (hc0 : l0.length ≤ c0) (h : spec_l1Own.f l0 = some r) :
 Calls Try.prog 69 #[.slice A0 l0.length c0] w fun e w' => ∃ v0_ : Value, e = .returned (v0_) ∧ Kd.R (Kd.int .i64) 3 w' w.heap.size (fun _ => True) v0_ r ∧ Below w.heap.size w w' := by
 have HR0 := Aside0.mk hr0
 have HC0 := Aside0.mk hc0
 clear hr0 hc0
 have HB := Aside0.mk (Below.refl w.heap.size w)
 have H : ((some (([] : List Int) : List Int)).bind fun y106 => (if y106.length + l0.length < 17592186044416 then (some (y106 ++ l0)) else (none))) = some r := h
 clear h
 obtain ⟨y106, hy106⟩ : ∃ y_ : List Int, y_ = (([] : List Int)) := ⟨_, rfl⟩
 replace H : (if y106.length + l0.length < 17592186044416 then (some (y106 ++ l0)) else (none)) = some r := by first | (rw [hy106]; with_reducible exact H) | (have H2_ := (Option.bind_some _ _).symm.trans H; rw [hy106]; with_reducible exact H2_) | (have H2_ := (Option.bind_some _ _).symm.trans H; with_reducible exact H2_) | with_reducible exact H | (rw [hy106]; exact H) | exact H
 have Ny106 := Aside0.mk hy106
 clear hy106
 by_cases c2 : y106.length + l0.length < 17592186044416
 · rw [if_pos c2] at H
   have LMc2 := Aside0.mk c2
   clear c2
   obtain ⟨y109, hy109⟩ : ∃ y_ : List Int, y_ = (y106 ++ l0) := ⟨_, rfl⟩
   replace H : (some y109) = some r := by first | (rw [hy109]; with_reducible exact H) | (have H2_ := (Option.bind_some _ _).symm.trans H; rw [hy109]; with_reducible exact H2_) | (have H2_ := (Option.bind_some _ _).symm.trans H; with_reducible exact H2_) | with_reducible exact H | (rw [hy109]; exact H) | exact H
   have Ny109 := Aside0.mk hy109
   clear hy109
   obtain rfl := Option.some.inj H
   go_enter Try.func69, Try.ntmps69
   go_wp2_with (first | ((with_reducible refine gate_dst (N := 3) rfl ?_); refine Kd.R_lit (Kd.int .i64) _ 3 ?hg (N := 3) ?hd (xs := ([] : List Int)) (inner := []) (ok := fun _ => True) (okp := fun _ => True) ?hr ?hp (fun _ hk => hk) trivial (Below.refl _ _) (Nat.le_refl _) (by simp) ?_; (case hd => rfl); (case hg => rfl); (case hr => first | (go_simp; done) | (go_simp; rfl)); (case hp => exact (Reps.none _ _)); intro v107 w3 ho4 hb hg_ hnew_; clear hg_ hnew_; (first | rw [← Ny106.out] at ho4 | (simp only [Int.reduceToNat] at ho4; rw [← Ny106.out] at ho4)); have n0_ := Aside0.mk (Kd.R_lower ho4 (below_size (by repeat (first | (with_reducible first | exact HB.out | apply below_alloc | apply pw_below_drewN | apply below_drew1) | exact HB.out)))); have n1_ := Aside0.mk (below_step (by repeat (first | (with_reducible first | exact HB.out | apply below_alloc | apply pw_below_drewN | apply below_drew1) | exact HB.out)) hb); clear HB; have HO108 := n0_; have HB := n1_; clear n0_ n1_; clear hb ho4) | ((with_reducible refine gate_builtin (b := .append) (xs := #[.tmp 3, .tmp 4]) rfl ?_); at_builtin; refine Kd.R_append_rows (Kd.int .i64) (w0 := w) w.heap.size rfl (.tmp 3) (.tmp 4) 22 3 (.int .i64 0) 8 rfl Try.underlying22 info3 rfl (by decide) (by omega) v107 y106 l0 _ _ _ (fun _ => True) (fun _ => False) rfl rfl ?aO ?aR (fun _ _ h => h) (fun _ h => h.elim) ?aF ?aB ?aS ?aL ?_; (case aR => repeat (first | exact (Kd.C_below HR0.out HB.out) | (with_reducible refine Kd.C_alloc ?_ _) | (with_reducible refine Kd.C_drewN ?_ _) | (with_reducible refine Kd.C_drew ?_))); (case aB => exact (by repeat (first | (with_reducible first | exact HB.out | apply below_alloc | apply pw_below_drewN | apply below_drew1) | exact HB.out))); (case aF => exact (fun _ _ => trivial)); (case aO => exact (by (with_reducible repeat (first | apply Kd.R_alloc | apply Kd.R_drewN | apply Kd.R_drew)); exact HO108.out)); (case aS => exact (below_size (by repeat (first | (with_reducible first | exact HB.out | apply below_alloc | apply pw_below_drewN | apply below_drew1) | exact HB.out)))); (case aL => have := LMc2.out; omega); intro v110 w5 ho hb hg hat; rw [← Ny109.out] at ho; have n0_ := Aside0.mk (hb); have n1_ := Aside0.mk (ho); clear HB; clear HO108; have HB := n0_; have HO111 := n1_; clear n0_ n1_; clear ho hb hg hat))
   go_ret
   exact ⟨_, by first | rfl | (simp [errW_none, errW_some] <;> rfl) | (simp [*, errW_none, errW_some] <;> rfl), by (with_reducible repeat (first | apply Kd.R_alloc | apply Kd.R_drewN | apply Kd.R_drew)); exact HO111.out, by repeat (first | (with_reducible first | exact HB.out | apply below_alloc | apply pw_below_drewN | apply below_drew1) | exact HB.out)⟩
 · rw [if_neg c2] at H
   exact absurd H (by simp)

end Go.Proofs.Ytdkimdlbjeobiaa.A
