/- What the law FnExactBigGifts reaches, part 5: Lean functions with the same answers as the Go functions, the proofs that the Go code comes to these answers, and lemmas about them; no condition beyond those that each theorem names. -/
import Derived.Test.YtkpojaooolefjaaCFnExactBigGiftsw1
import Derived.Test.YtkpojaooolefjaaCFnExactBigGifts1
import Derived.Test.YtkpojaooolefjaaCFnExactBigGifts2
import Derived.Test.YtkpojaooolefjaaCFnExactBigGifts3
import Derived.Test.YtkpojaooolefjaaCFnExactBigGifts4
-- made by a program of this repo (wip/pp.py) through the kit's printer
namespace Go.Proofs.Ytkpojaooolefjaa.A
open Go.RowKit Go.Proofs.YtkpojaooolefjaaW.PrintWords Go.Proofs.YtkpojaooolefjaaW.PrintLast Go.Proofs.YtkpojaooolefjaaW.PrintMore
attribute [local go_sem] max2_int min2_int max_two min_two max_three min_three max_four min_four
set_option linter.unusedVariables false
set_option linter.unusedSimpArgs false

/-! ### laws_heldIntS: function 59 -/
def laws_heldIntS.l0 : Nat → List Int → Int → Int → Option (Int)
 | 0, _, _, _ => none
 | k + 1, x0, x1, x5 => if x5 < (x0.length : Int) then (if 0 ≤ x5 then (if (rd x0 x5) = x1 then (laws_heldIntS.l0 k x0 (wrap64 (x1 + 1)) (wrap64 (x5 + 1))) else (some (-1))) else (none)) else (some x1)
def laws_heldIntS.f (k : Nat) (l0 : List Int) (a1 : Int) : Option (Int) := laws_heldIntS.l0 k l0 a1 0
theorem laws_heldIntS.mono_l : ∀ k, (∀ y0 y1 y2, LeO (laws_heldIntS.l0 k y0 y1 y2) (laws_heldIntS.l0 (k + 1) y0 y1 y2))
 | 0 => fun _ _ _ r h => by simp [laws_heldIntS.l0] at h
 | k + 1 => by
  have ih0 := laws_heldIntS.mono_l k
  · intro y0 y1 y2
    unfold laws_heldIntS.l0
    repeat' first
    | (with_reducible exact ih0 _ _ _)
    | (with_reducible exact LeO.refl _)
    | (with_reducible exact LeO.none _)
    | (with_reducible refine LeO.ite ?_ ?_)
    | (with_reducible refine LeO.bind ?_ (fun _ => ?_))
    | exact ih0 _ _ _
    | exact LeO.none _
    | refine LeO.ite ?_ ?_
    | refine LeO.bind ?_ (fun _ => ?_)
theorem laws_heldIntS.mono : ∀ a0 a1 k, LeO (laws_heldIntS.f k a0 a1) (laws_heldIntS.f (k + 1) a0 a1) := by
 intro a0 a1 k
 have ih0 := laws_heldIntS.mono_l k
 unfold laws_heldIntS.f
 repeat' first
  | (with_reducible exact ih0 _ _ _)
  | (with_reducible exact LeO.refl _)
  | (with_reducible exact LeO.none _)
  | (with_reducible refine LeO.ite ?_ ?_)
  | (with_reducible refine LeO.bind ?_ (fun _ => ?_))
  | exact ih0 _ _ _
  | exact LeO.none _
  | refine LeO.ite ?_ ?_
  | refine LeO.bind ?_ (fun _ => ?_)
set_option maxHeartbeats 8000000 in
set_option maxRecDepth 100000 in
theorem laws_heldIntS.calls (k : Nat) (A0 : Option Addr) (c0 : Nat) (l0 : List Int) (a1 : Int) (r : Int) (w : World) (hr0 : Kd.C (Kd.int .i64) w A0 l0.length l0) (hc0 : l0.length ≤ c0) (h : laws_heldIntS.f k l0 a1 = some r) :
 Calls Try.prog 59 #[.slice A0 l0.length c0, .int .i64 a1] w fun e w' => e = .returned (.int .i64 r) ∧ Drawn0 w w' := by
 have HR0 := Aside0.mk hr0
 have HC0 := Aside0.mk hc0
 clear hr0 hc0
 have H : (laws_heldIntS.l0 k l0 a1 0) = some r := h
 clear h
 have H' := Aside0.mk H
 clear H
 go_enter Try.func59, Try.ntmps59
 go_wp2
 go_loopg [1, 5] k (fun kq v1 v5 w' => ∃ (x1_1 : Int) (x5_1 : Int), v1 = .int .i64 x1_1 ∧ v5 = .int .i64 x5_1 ∧ Aside0 (laws_heldIntS.l0 kq l0 x1_1 x5_1 = some r) ∧ Aside0 (kq ≤ k) ∧ Drawn0 w w')
 case atStart => exact ⟨(a1), (0), (by first | rfl | (simp; done) | (simp [*]; done)), (by first | rfl | (simp; done) | (simp [*]; done)), H', ⟨Nat.le_refl _⟩, by repeat (first | exact Drawn0.refl _ | apply Drawn0.step)⟩
 case round =>
  clear H'
  try clear p2
  obtain ⟨x1_1, x5_1, rfl, rfl, HA, HK1, ⟨m1, rfl⟩⟩ := hrel
  cases gk with
  | zero => exact absurd HA.out (by simp [laws_heldIntS.l0])
  | succ k1 =>
   have H := HA.out
   clear HA
   simp only [laws_heldIntS.l0] at H
   by_cases c3 : x5_1 < (l0.length : Int)
   · rw [if_pos c3] at H
     have c3b0 : decide (x5_1 < (l0.length : Int)) = true := decide_eq_true c3
     clear c3
     by_cases c4 : 0 ≤ x5_1
     · rw [if_pos c4] at H
       have c4b0 : decide (0 ≤ x5_1) = true := decide_eq_true c4
       clear c4
       by_cases c5 : (rd l0 x5_1) = x1_1
       · rw [if_pos c5] at H
         have c5b0 : ((rd l0 x5_1) == x1_1) = true := beq_iff_eq.mpr c5
         have c5b1 : ((rd l0 x5_1) != x1_1) = false := bne_eq_false_iff_eq.mpr c5
         clear c5
         have H' := Aside0.mk H
         clear H
         have p440 : 0 ≤ (x5_1 : Int) := of_decide_eq_true (by first | (with_reducible assumption) | assumption)
         have q440 : x5_1 < (l0.length : Int) := of_decide_eq_true (by first | (with_reducible assumption) | assumption)
         obtain ⟨ad440, e440, hx440_0⟩ := Kd.at_int HR0.out x5_1 p440 q440
         cases e440
         replace p440 := eq_true p440
         replace q440 := eq_true q440
         go_wp2
         go_roundg k1
         case measure => have := HK1.out; omega
         case rel => exact ⟨(wrap64 (x1_1 + 1)), (wrap64 (x5_1 + 1)), (by first | rfl | (simp; done) | (simp [*]; done)), (by first | rfl | (simp; done) | (simp [*]; done)), H', ⟨by have := HK1.out; omega⟩, by repeat (first | exact Drawn0.refl _ | apply Drawn0.step)⟩
       · rw [if_neg c5] at H
         have c5b0 : ((rd l0 x5_1) == x1_1) = false := beq_eq_false_iff_ne.mpr c5
         have c5b1 : ((rd l0 x5_1) != x1_1) = true := bne_iff_ne.mpr c5
         obtain rfl := Option.some.inj H
         have p440 : 0 ≤ (x5_1 : Int) := of_decide_eq_true (by first | (with_reducible assumption) | assumption)
         have q440 : x5_1 < (l0.length : Int) := of_decide_eq_true (by first | (with_reducible assumption) | assumption)
         obtain ⟨ad440, e440, hx440_0⟩ := Kd.at_int HR0.out x5_1 p440 q440
         cases e440
         replace p440 := eq_true p440
         replace q440 := eq_true q440
         go_wp2
         go_ret
         exact ⟨by first | rfl | (simp; done) | (simp [*]; done), by repeat (first | exact Drawn0.refl _ | apply Drawn0.step)⟩
     · rw [if_neg c4] at H
       exact absurd H (by simp)
   · rw [if_neg c3] at H
     have c3b0 : decide (x5_1 < (l0.length : Int)) = false := decide_eq_false c3
     clear c3
     obtain rfl := Option.some.inj H
     go_wp2
     go_ret
     exact ⟨by first | rfl | (simp; done) | (simp [*]; done), by repeat (first | exact Drawn0.refl _ | apply Drawn0.step)⟩

end Go.Proofs.Ytkpojaooolefjaa.A

namespace Go.Proofs.Ytkpojaooolefjaa.A
open Go.RowKit Go.Proofs.YtkpojaooolefjaaW.PrintWords Go.Proofs.YtkpojaooolefjaaW.PrintLast Go.Proofs.YtkpojaooolefjaaW.PrintMore
set_option linter.unusedVariables false
set_option linter.unusedSimpArgs false
def marks (a : Int) (n : Nat) : List Int := (List.range n).map fun (j : Nat) => a + (j : Int)
theorem marks_length (a : Int) (n : Nat) : (marks a n).length = n := by simp [marks]
theorem marks_get (a : Int) (n i : Nat) (h : i < (marks a n).length) : (marks a n)[i] = a + (i : Int) := by simp [marks]
theorem markIntS_l (a : Int) (m : Nat) (h0 : 0 ≤ a) (hm : a + m ≤ 9223372036854775807) : ∀ (n i : Nat) (xs : List Int), i + n = m → xs.length = m → xs.take i = (marks a m).take i → Ev (fun k => laws_markIntS.l0 k xs (a + (i : Int)) (i : Int)) (a + (m : Int), marks a m)
 | 0, i, xs, h, hl, ht => by
  refine Ev.succ ?_
  simp only [laws_markIntS.l0, if_neg (show ¬ (i : Int) < (xs.length : Int) by omega)]
  rw [List.take_of_length_le (by omega), List.take_of_length_le (by rw [marks_length]; omega)] at ht
  rw [ht, show i = m by omega]
  exact Ev.now _
 | n + 1, i, xs, h, hl, ht => by
  have hi : i < xs.length := by omega
  refine Ev.succ ?_
  simp only [laws_markIntS.l0, if_pos (show (i : Int) < (xs.length : Int) by omega), if_pos (show (0 : Int) ≤ (i : Int) by omega), wsucc hi (by omega), Int.toNat_natCast, show wrap64 (a + (i : Int) + 1) = a + ((i + 1 : Nat) : Int) from by rw [w64 (by omega) (by omega)]; omega]
  refine markIntS_l a m h0 hm n (i + 1) _ (by omega) (by rw [List.length_set]; exact hl) ?_
  rw [List.take_add_one, List.take_add_one, List.take_set_of_le (Nat.le_refl _), ht]
  congr 1
  rw [List.getElem?_set_self (by omega), List.getElem?_eq_getElem (by rw [marks_length]; omega), marks_get]
theorem markIntS_ev (xs : List Int) (a : Int) (h0 : 0 ≤ a) (hm : a + xs.length ≤ 9223372036854775807) : Ev (fun k => laws_markIntS.f k xs a) (a + (xs.length : Int), marks a xs.length) := by
 have h := markIntS_l a xs.length h0 hm xs.length 0 xs (by omega) rfl (by simp)
 simp only [show a + ((0 : Nat) : Int) = a by omega] at h
 exact h
theorem heldIntS_l (a : Int) (m : Nat) (h0 : 0 ≤ a) (hm : a + m ≤ 9223372036854775807) : ∀ (n i : Nat), i + n = m → Ev (fun k => laws_heldIntS.l0 k (marks a m) (a + (i : Int)) (i : Int)) (a + (m : Int))
 | 0, i, h => by
  refine Ev.succ ?_
  simp only [laws_heldIntS.l0, marks_length, if_neg (show ¬ (i : Int) < (m : Int) by omega)]
  rw [show i = m by omega]
  exact Ev.now _
 | n + 1, i, h => by
  have hi : i < (marks a m).length := by rw [marks_length]; omega
  refine Ev.succ ?_
  simp only [laws_heldIntS.l0, rdn hi, marks_get, marks_length, if_pos (show (i : Int) < (m : Int) by omega), if_pos (show (0 : Int) ≤ (i : Int) by omega), wsucc hi (by rw [marks_length]; omega), if_true, show wrap64 (a + (i : Int) + 1) = a + ((i + 1 : Nat) : Int) from by rw [w64 (by omega) (by omega)]; omega]
  exact heldIntS_l a m h0 hm n (i + 1) (by omega)
theorem heldIntS_ev (a : Int) (m : Nat) (h0 : 0 ≤ a) (hm : a + m ≤ 9223372036854775807) : Ev (fun k => laws_heldIntS.f k (marks a m) a) (a + (m : Int)) := by
 have h := heldIntS_l a m h0 hm m 0 (by omega)
 simp only [show a + ((0 : Nat) : Int) = a by omega] at h
 exact h
end Go.Proofs.Ytkpojaooolefjaa.A

namespace Go.Proofs.Ytkpojaooolefjaa.A
open Go.RowKit Go.Proofs.YtkpojaooolefjaaW.PrintWords Go.Proofs.YtkpojaooolefjaaW.PrintLast Go.Proofs.YtkpojaooolefjaaW.PrintMore
set_option linter.unusedVariables false
set_option linter.unusedSimpArgs false
def gmark (a : Int) : S49 := ⟨a, a + 1, a + 1 + 1⟩
def gmarks (a : Int) (n : Nat) : List S49 := (List.range n).map fun (j : Nat) => gmark (a + 3 * (j : Int))
theorem gmarks_length (a : Int) (n : Nat) : (gmarks a n).length = n := by simp [gmarks]
theorem gmarks_get (a : Int) (n i : Nat) (h : i < (gmarks a n).length) : (gmarks a n)[i] = gmark (a + 3 * (i : Int)) := by simp [gmarks]
theorem rdG {xs : List S49} {i : Nat} (h : i < xs.length) : rd_T49 xs (i : Int) = xs[i] := by
 unfold rd_T49
 rw [Int.toNat_natCast, List.getD_eq_getElem?_getD, List.getElem?_eq_getElem h]
 rfl
theorem rdG_set {xs : List S49} {i : Nat} (h : i < xs.length) (v : S49) : rd_T49 (xs.set i v) (i : Int) = v := by
 rw [rdG (by rw [List.length_set]; exact h), List.getElem_set_self]
theorem markGiftS_l (a : Int) (m : Nat) (h0 : 0 ≤ a) (hm : a + 3 * m ≤ 9223372036854775807) : ∀ (n i : Nat) (xs : List S49), i + n = m → xs.length = m → xs.take i = (gmarks a m).take i → Ev (fun k => laws_markGiftS.l0 k xs (a + 3 * (i : Int)) (i : Int)) (a + 3 * (m : Int), gmarks a m)
 | 0, i, xs, h, hl, ht => by
  refine Ev.succ ?_
  simp only [laws_markGiftS.l0, if_neg (show ¬ (i : Int) < (xs.length : Int) by omega)]
  rw [List.take_of_length_le (by omega), List.take_of_length_le (by rw [gmarks_length]; omega)] at ht
  rw [ht, show i = m by omega]
  exact Ev.now _
 | n + 1, i, xs, h, hl, ht => by
  have hi : i < xs.length := by omega
  refine Ev.succ ?_
  simp only [laws_markGiftS.l0, if_pos (show (i : Int) < (xs.length : Int) by omega), if_pos (show (0 : Int) ≤ (i : Int) by omega), Option.bind_some, Int.toNat_natCast, rdG_set hi, List.set_set, wsucc hi (by omega)]
  rw [w64 (x := a + 3 * (i : Int) + 1) (by omega) (by omega), w64 (x := a + 3 * (i : Int) + 1 + 1) (by omega) (by omega), w64 (x := a + 3 * (i : Int) + 1 + 1 + 1) (by omega) (by omega), show a + 3 * (i : Int) + 1 + 1 + 1 = a + 3 * ((i + 1 : Nat) : Int) by omega]
  refine markGiftS_l a m h0 hm n (i + 1) _ (by omega) (by rw [List.length_set]; exact hl) ?_
  rw [List.take_add_one, List.take_add_one, List.take_set_of_le (Nat.le_refl _), ht]
  congr 1
  rw [List.getElem?_set_self (by omega), List.getElem?_eq_getElem (by rw [gmarks_length]; omega), gmarks_get]
  rfl
theorem markGiftS_ev (xs : List S49) (a : Int) (h0 : 0 ≤ a) (hm : a + 3 * xs.length ≤ 9223372036854775807) : Ev (fun k => laws_markGiftS.f k xs a) (a + 3 * (xs.length : Int), gmarks a xs.length) := by
 have h := markGiftS_l a xs.length h0 hm xs.length 0 xs (by omega) rfl (by simp)
 simp only [show a + 3 * ((0 : Nat) : Int) = a by omega] at h
 exact h
theorem heldGiftS_l (a : Int) (m : Nat) (h0 : 0 ≤ a) (hm : a + 3 * m ≤ 9223372036854775807) : ∀ (n i : Nat), i + n = m → Ev (fun k => laws_heldGiftS.l0 k (gmarks a m) (a + 3 * (i : Int)) (i : Int)) (a + 3 * (m : Int))
 | 0, i, h => by
  refine Ev.succ ?_
  simp only [laws_heldGiftS.l0, gmarks_length, if_neg (show ¬ (i : Int) < (m : Int) by omega)]
  rw [show i = m by omega]
  exact Ev.now _
 | n + 1, i, h => by
  have hi : i < (gmarks a m).length := by rw [gmarks_length]; omega
  refine Ev.succ ?_
  simp only [laws_heldGiftS.l0, rdG hi, gmarks_get, gmark, gmarks_length, if_pos (show (i : Int) < (m : Int) by omega), if_pos (show (0 : Int) ≤ (i : Int) by omega), wsucc hi (by rw [gmarks_length]; omega), if_true]
  rw [w64 (x := a + 3 * (i : Int) + 1) (by omega) (by omega), w64 (x := a + 3 * (i : Int) + 1 + 1) (by omega) (by omega), w64 (x := a + 3 * (i : Int) + 1 + 1 + 1) (by omega) (by omega)]
  simp only [if_true]
  rw [show a + 3 * (i : Int) + 1 + 1 + 1 = a + 3 * ((i + 1 : Nat) : Int) by omega]
  exact heldGiftS_l a m h0 hm n (i + 1) (by omega)
theorem heldGiftS_ev (a : Int) (m : Nat) (h0 : 0 ≤ a) (hm : a + 3 * m ≤ 9223372036854775807) : Ev (fun k => laws_heldGiftS.f k (gmarks a m) a) (a + 3 * (m : Int)) := by
 have h := heldGiftS_l a m h0 hm m 0 (by omega)
 simp only [show a + 3 * ((0 : Nat) : Int) = a by omega] at h
 exact h
theorem eqGiftS_l (xs : List S49) (hx : xs.length ≤ 9223372036854775807) : ∀ (n i : Nat), i + n = xs.length → Ev (fun k => laws_eqGiftS.l0 k xs xs (i : Int)) true
 | 0, i, h => by
  refine Ev.succ ?_
  simp only [laws_eqGiftS.l0, if_neg (show ¬ (i : Int) < (xs.length : Int) by omega)]
  exact Ev.now _
 | n + 1, i, h => by
  have hi : i < xs.length := by omega
  refine Ev.succ ?_
  simp only [laws_eqGiftS.l0, if_pos (show (i : Int) < (xs.length : Int) by omega), if_pos (show (0 : Int) ≤ (i : Int) by omega), wsucc hi hx, laws_eqGift.f, if_true, Option.bind_some]
  exact eqGiftS_l xs hx n (i + 1) (by omega)
theorem eqGiftS_self (xs : List S49) (hx : xs.length ≤ 9223372036854775807) : Ev (fun k => laws_eqGiftS.f k xs xs) true := by
 unfold laws_eqGiftS.f
 simp only [if_true]
 exact eqGiftS_l xs hx xs.length 0 (by omega)
end Go.Proofs.Ytkpojaooolefjaa.A

namespace Go.Proofs.Ytkpojaooolefjaa.A
open Go.RowKit Go.Proofs.YtkpojaooolefjaaW.PrintWords Go.Proofs.YtkpojaooolefjaaW.PrintLast Go.Proofs.YtkpojaooolefjaaW.PrintMore
set_option linter.unusedVariables false
set_option linter.unusedSimpArgs false
theorem toIntS_l (xs : List Int) (hx : xs.length ≤ 35184372088832) : ∀ (n i : Nat) (ys : List Int), i + n = xs.length → ys.length = xs.length → ys.take i = xs.take i → Ev (fun k => laws_toIntS.l0 k xs ys (i : Int)) xs
 | 0, i, ys, h, hl, ht => by
  refine Ev.succ ?_
  simp only [laws_toIntS.l0, if_neg (show ¬ (i : Int) < (xs.length : Int) by omega)]
  rw [List.take_of_length_le (by omega), List.take_of_length_le (by omega)] at ht
  rw [ht]
  exact Ev.now _
 | n + 1, i, ys, h, hl, ht => by
  have hi : i < xs.length := by omega
  refine Ev.succ ?_
  simp only [laws_toIntS.l0, if_pos (show (i : Int) < (xs.length : Int) by omega), if_pos (show (i : Int) < (ys.length : Int) by omega), if_pos (show (0 : Int) ≤ (i : Int) by omega), rdn hi, wsucc hi (by omega), Int.toNat_natCast]
  refine toIntS_l xs hx n (i + 1) _ (by omega) (by rw [List.length_set]; exact hl) ?_
  rw [List.take_add_one, List.take_add_one, List.take_set_of_le (Nat.le_refl _), ht]
  congr 1
  rw [List.getElem?_set_self (by omega), List.getElem?_eq_getElem hi]
theorem toIntS_ev (xs : List Int) (hx : xs.length ≤ 35184372088832) : Ev (fun k => laws_toIntS.f k xs) xs := by
 unfold laws_toIntS.f
 simp only [if_pos (show (0 : Int) ≤ (xs.length : Int) by omega), Int.toNat_natCast, if_pos hx]
 exact toIntS_l xs hx xs.length 0 _ (by omega) (by simp) (by simp)
end Go.Proofs.Ytkpojaooolefjaa.A

/- The law FnExactBigGifts holds of the printed functions, for every argument: numbers and lists alone. -/
namespace Go.Proofs.Ytkpojaooolefjaa.Pure
open Go.RowKit Go.Proofs.Ytkpojaooolefjaa.A Go.Proofs.YtkpojaooolefjaaW.PrintWords Go.Proofs.YtkpojaooolefjaaW.PrintLast
set_option linter.unusedVariables false
set_option linter.unusedSimpArgs false
theorem FnExactBigGifts : laws_FnExactBigGifts.Pure := by
 intro l0 l1 _ _ _ _ _ _
 apply Ev.get
 unfold laws_FnExactBigGifts.f
 by_cases hl0 : (l0.length : Int) > 1048576
 · simp only [if_pos hl0]
   exact Ev.now _
 simp only [if_neg hl0]
 by_cases hl1 : (l1.length : Int) > 1048576
 · simp only [if_pos hl1]
   exact Ev.now _
 simp only [if_neg hl1]
 have hlen := bigR_len l0 l1 (by omega) (by omega) 
 refine Ev.bind (toIntS_ev l0 (by omega)) ?_
 refine Ev.bind (toIntS_ev l1 (by omega)) ?_
 refine Ev.bind (specBigGifts_ev l0 l1 (by omega) (by omega) ) ?_
 refine Ev.bind (toIntS_ev l0 (by omega)) ?_
 refine Ev.bind (toIntS_ev l1 (by omega)) ?_
 refine Ev.bind (implBigGifts_ev l0 l1 (by omega) (by omega) ) ?_
 refine Ev.bind (eqGiftS_self _ (by omega)) ?_
 first | simp only [bne_self_eq_false, if_true, Bool.false_eq_true, if_false] | skip
 refine Ev.succ ?_
 simp only [laws_FnExactBigGifts.j0, Bool.false_eq_true, if_false]
 refine Ev.bind (toIntS_ev l0 (by omega)) ?_
 refine Ev.bind (eqIntS_self _ (by omega)) ?_
 first | simp only [bne_self_eq_false, if_true, Bool.false_eq_true, if_false] | skip
 refine Ev.bind (toIntS_ev l1 (by omega)) ?_
 refine Ev.bind (eqIntS_self _ (by omega)) ?_
 first | simp only [bne_self_eq_false, if_true, Bool.false_eq_true, if_false] | skip
 refine Ev.bind (markIntS_ev l0 (1) (by omega) (by omega)) ?_
 refine Ev.bind (markIntS_ev l1 (1 + (l0.length : Int)) (by omega) (by omega)) ?_
 simp only [if_neg (show ¬ (1 + (l0.length : Int) + (l1.length : Int) : Int) < 0 by omega)]
 refine Ev.bind (eqGiftS_self _ (by omega)) ?_
 first | simp only [bne_self_eq_false, if_true, Bool.false_eq_true, if_false] | skip
 refine Ev.succ ?_
 simp only [laws_FnExactBigGifts.j1, Bool.false_eq_true, if_false]
 refine Ev.bind (markGiftS_ev (bigR l0 l1).1 (1) (by omega) (by omega)) ?_
 refine Ev.bind (heldGiftS_ev (1) _ (by omega) (by omega)) ?_
 simp only [if_neg (show ¬ (1 + 3 * ((bigR l0 l1).1.length : Int) : Int) < 0 by omega)]
 first | simp only [bne_self_eq_false, if_true, Bool.false_eq_true, if_false] | skip
 first | simp only [bne_self_eq_false, if_true, Bool.false_eq_true, if_false] | skip
 refine Ev.bind (toIntS_ev l0 (by omega)) ?_
 refine Ev.bind (toIntS_ev l1 (by omega)) ?_
 refine Ev.bind (implBigGifts_ev l0 l1 (by omega) (by omega) ) ?_
 refine Ev.bind (eqGiftS_self _ (by omega)) ?_
 first | simp only [bne_self_eq_false, if_true, Bool.false_eq_true, if_false] | skip
 refine Ev.succ ?_
 simp only [laws_FnExactBigGifts.j2, Bool.false_eq_true, if_false]
 refine Ev.bind (heldGiftS_ev (1) _ (by omega) (by omega)) ?_
 simp only [if_neg (show ¬ (1 + 3 * ((bigR l0 l1).1.length : Int) : Int) < 0 by omega)]
 first | simp only [bne_self_eq_false, if_true, Bool.false_eq_true, if_false] | skip
 first | simp only [bne_self_eq_false, if_true, Bool.false_eq_true, if_false] | skip
 exact Ev.now _
end Go.Proofs.Ytkpojaooolefjaa.Pure
