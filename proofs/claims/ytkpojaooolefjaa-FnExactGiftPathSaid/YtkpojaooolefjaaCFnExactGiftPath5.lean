/- What the law FnExactGiftPath reaches, part 5: Lean functions with the same answers as the Go functions, the proofs that the Go code comes to these answers, and lemmas about them; no condition beyond those that each theorem names. -/
import Derived.Test.YtkpojaooolefjaaCFnExactGiftPathw1
import Derived.Test.YtkpojaooolefjaaCFnExactGiftPath1
import Derived.Test.YtkpojaooolefjaaCFnExactGiftPath2
import Derived.Test.YtkpojaooolefjaaCFnExactGiftPath3
import Derived.Test.YtkpojaooolefjaaCFnExactGiftPath4
namespace Go.Proofs.Ytkpojaooolefjaa.A
open Go.RowKit Go.Proofs.YtkpojaooolefjaaW.PrintWords Go.Proofs.YtkpojaooolefjaaW.PrintLast Go.Proofs.YtkpojaooolefjaaW.PrintMore
set_option linter.unusedVariables false
set_option linter.unusedSimpArgs false
def marks (a : Int) (n : Nat) : List Int := (List.range n).map fun (j : Nat) => a + (j : Int)
theorem marks_length (a : Int) (n : Nat) : (marks a n).length = n := by simp [marks]
theorem marks_get (a : Int) (n i : Nat) (h : i < (marks a n).length) : (marks a n)[i] = a + (i : Int) := by simp [marks]
theorem markIntS_l (a : Int) (m : Nat) (h0 : 0 ≤ a) (hm : a + m ≤ 9223372036854775807) : ∀ (n i : Nat) (xs : List Int), i + n = m → xs.length = m → xs.take i = (marks a m).take i → Ev (fun k => laws_markIntS.l0 k xs (a + (i : Int)) (i : Int)) (a + (m : Int), marks a m)
 | 0, i, xs, h, hl, ht => by
  refine Ev.succ ?_
  simp only [laws_markIntS.l0, if_neg (show ¬ (i : Int) < (xs.length : Int) by omega)]
  rw [List.take_of_length_le (by omega), List.take_of_length_le (by rw [marks_length]; omega)] at ht
  rw [ht, show i = m by omega]
  exact Ev.now _
 | n + 1, i, xs, h, hl, ht => by
  have hi : i < xs.length := by omega
  refine Ev.succ ?_
  simp only [laws_markIntS.l0, if_pos (show (i : Int) < (xs.length : Int) by omega), if_pos (show (0 : Int) ≤ (i : Int) by omega), wsucc hi (by omega), Int.toNat_natCast, show wrap64 (a + (i : Int) + 1) = a + ((i + 1 : Nat) : Int) from by rw [w64 (by omega) (by omega)]; omega]
  refine markIntS_l a m h0 hm n (i + 1) _ (by omega) (by rw [List.length_set]; exact hl) ?_
  rw [List.take_add_one, List.take_add_one, List.take_set_of_le (Nat.le_refl _), ht]
  congr 1
  rw [List.getElem?_set_self (by omega), List.getElem?_eq_getElem (by rw [marks_length]; omega), marks_get]
theorem markIntS_ev (xs : List Int) (a : Int) (h0 : 0 ≤ a) (hm : a + xs.length ≤ 9223372036854775807) : Ev (fun k => laws_markIntS.f k xs a) (a + (xs.length : Int), marks a xs.length) := by
 have h := markIntS_l a xs.length h0 hm xs.length 0 xs (by omega) rfl (by simp)
 simp only [show a + ((0 : Nat) : Int) = a by omega] at h
 exact h
theorem heldIntS_l (a : Int) (m : Nat) (h0 : 0 ≤ a) (hm : a + m ≤ 9223372036854775807) : ∀ (n i : Nat), i + n = m → Ev (fun k => laws_heldIntS.l0 k (marks a m) (a + (i : Int)) (i : Int)) (a + (m : Int))
 | 0, i, h => by
  refine Ev.succ ?_
  simp only [laws_heldIntS.l0, marks_length, if_neg (show ¬ (i : Int) < (m : Int) by omega)]
  rw [show i = m by omega]
  exact Ev.now _
 | n + 1, i, h => by
  have hi : i < (marks a m).length := by rw [marks_length]; omega
  refine Ev.succ ?_
  simp only [laws_heldIntS.l0, rdn hi, marks_get, marks_length, if_pos (show (i : Int) < (m : Int) by omega), if_pos (show (0 : Int) ≤ (i : Int) by omega), wsucc hi (by rw [marks_length]; omega), if_true, show wrap64 (a + (i : Int) + 1) = a + ((i + 1 : Nat) : Int) from by rw [w64 (by omega) (by omega)]; omega]
  exact heldIntS_l a m h0 hm n (i + 1) (by omega)
theorem heldIntS_ev (a : Int) (m : Nat) (h0 : 0 ≤ a) (hm : a + m ≤ 9223372036854775807) : Ev (fun k => laws_heldIntS.f k (marks a m) a) (a + (m : Int)) := by
 have h := heldIntS_l a m h0 hm m 0 (by omega)
 simp only [show a + ((0 : Nat) : Int) = a by omega] at h
 exact h
end Go.Proofs.Ytkpojaooolefjaa.A

namespace Go.Proofs.Ytkpojaooolefjaa.A
open Go.RowKit Go.Proofs.YtkpojaooolefjaaW.PrintWords Go.Proofs.YtkpojaooolefjaaW.PrintLast Go.Proofs.YtkpojaooolefjaaW.PrintMore
set_option linter.unusedVariables false
set_option linter.unusedSimpArgs false
def gmark (a : Int) : S49 := ⟨a, a + 1, a + 1 + 1⟩
def gmarks (a : Int) (n : Nat) : List S49 := (List.range n).map fun (j : Nat) => gmark (a + 3 * (j : Int))
theorem gmarks_length (a : Int) (n : Nat) : (gmarks a n).length = n := by simp [gmarks]
theorem gmarks_get (a : Int) (n i : Nat) (h : i < (gmarks a n).length) : (gmarks a n)[i] = gmark (a + 3 * (i : Int)) := by simp [gmarks]
theorem rdG {xs : List S49} {i : Nat} (h : i < xs.length) : rd_T49 xs (i : Int) = xs[i] := by
 unfold rd_T49
 rw [Int.toNat_natCast, List.getD_eq_getElem?_getD, List.getElem?_eq_getElem h]
 rfl
theorem rdG_set {xs : List S49} {i : Nat} (h : i < xs.length) (v : S49) : rd_T49 (xs.set i v) (i : Int) = v := by
 rw [rdG (by rw [List.length_set]; exact h), List.getElem_set_self]
theorem markGiftS_l (a : Int) (m : Nat) (h0 : 0 ≤ a) (hm : a + 3 * m ≤ 9223372036854775807) : ∀ (n i : Nat) (xs : List S49), i + n = m → xs.length = m → xs.take i = (gmarks a m).take i → Ev (fun k => laws_markGiftS.l0 k xs (a + 3 * (i : Int)) (i : Int)) (a + 3 * (m : Int), gmarks a m)
 | 0, i, xs, h, hl, ht => by
  refine Ev.succ ?_
  simp only [laws_markGiftS.l0, if_neg (show ¬ (i : Int) < (xs.length : Int) by omega)]
  rw [List.take_of_length_le (by omega), List.take_of_length_le (by rw [gmarks_length]; omega)] at ht
  rw [ht, show i = m by omega]
  exact Ev.now _
 | n + 1, i, xs, h, hl, ht => by
  have hi : i < xs.length := by omega
  refine Ev.succ ?_
  simp only [laws_markGiftS.l0, if_pos (show (i : Int) < (xs.length : Int) by omega), if_pos (show (0 : Int) ≤ (i : Int) by omega), Option.bind_some, Int.toNat_natCast, rdG_set hi, List.set_set, wsucc hi (by omega)]
  rw [w64 (x := a + 3 * (i : Int) + 1) (by omega) (by omega), w64 (x := a + 3 * (i : Int) + 1 + 1) (by omega) (by omega), w64 (x := a + 3 * (i : Int) + 1 + 1 + 1) (by omega) (by omega), show a + 3 * (i : Int) + 1 + 1 + 1 = a + 3 * ((i + 1 : Nat) : Int) by omega]
  refine markGiftS_l a m h0 hm n (i + 1) _ (by omega) (by rw [List.length_set]; exact hl) ?_
  rw [List.take_add_one, List.take_add_one, List.take_set_of_le (Nat.le_refl _), ht]
  congr 1
  rw [List.getElem?_set_self (by omega), List.getElem?_eq_getElem (by rw [gmarks_length]; omega), gmarks_get]
  rfl
theorem markGiftS_ev (xs : List S49) (a : Int) (h0 : 0 ≤ a) (hm : a + 3 * xs.length ≤ 9223372036854775807) : Ev (fun k => laws_markGiftS.f k xs a) (a + 3 * (xs.length : Int), gmarks a xs.length) := by
 have h := markGiftS_l a xs.length h0 hm xs.length 0 xs (by omega) rfl (by simp)
 simp only [show a + 3 * ((0 : Nat) : Int) = a by omega] at h
 exact h
theorem heldGiftS_l (a : Int) (m : Nat) (h0 : 0 ≤ a) (hm : a + 3 * m ≤ 9223372036854775807) : ∀ (n i : Nat), i + n = m → Ev (fun k => laws_heldGiftS.l0 k (gmarks a m) (a + 3 * (i : Int)) (i : Int)) (a + 3 * (m : Int))
 | 0, i, h => by
  refine Ev.succ ?_
  simp only [laws_heldGiftS.l0, gmarks_length, if_neg (show ¬ (i : Int) < (m : Int) by omega)]
  rw [show i = m by omega]
  exact Ev.now _
 | n + 1, i, h => by
  have hi : i < (gmarks a m).length := by rw [gmarks_length]; omega
  refine Ev.succ ?_
  simp only [laws_heldGiftS.l0, rdG hi, gmarks_get, gmark, gmarks_length, if_pos (show (i : Int) < (m : Int) by omega), if_pos (show (0 : Int) ≤ (i : Int) by omega), wsucc hi (by rw [gmarks_length]; omega), if_true]
  rw [w64 (x := a + 3 * (i : Int) + 1) (by omega) (by omega), w64 (x := a + 3 * (i : Int) + 1 + 1) (by omega) (by omega), w64 (x := a + 3 * (i : Int) + 1 + 1 + 1) (by omega) (by omega)]
  simp only [if_true]
  rw [show a + 3 * (i : Int) + 1 + 1 + 1 = a + 3 * ((i + 1 : Nat) : Int) by omega]
  exact heldGiftS_l a m h0 hm n (i + 1) (by omega)
theorem heldGiftS_ev (a : Int) (m : Nat) (h0 : 0 ≤ a) (hm : a + 3 * m ≤ 9223372036854775807) : Ev (fun k => laws_heldGiftS.f k (gmarks a m) a) (a + 3 * (m : Int)) := by
 have h := heldGiftS_l a m h0 hm m 0 (by omega)
 simp only [show a + 3 * ((0 : Nat) : Int) = a by omega] at h
 exact h
theorem eqGiftS_l (xs : List S49) (hx : xs.length ≤ 9223372036854775807) : ∀ (n i : Nat), i + n = xs.length → Ev (fun k => laws_eqGiftS.l0 k xs xs (i : Int)) true
 | 0, i, h => by
  refine Ev.succ ?_
  simp only [laws_eqGiftS.l0, if_neg (show ¬ (i : Int) < (xs.length : Int) by omega)]
  exact Ev.now _
 | n + 1, i, h => by
  have hi : i < xs.length := by omega
  refine Ev.succ ?_
  simp only [laws_eqGiftS.l0, if_pos (show (i : Int) < (xs.length : Int) by omega), if_pos (show (0 : Int) ≤ (i : Int) by omega), wsucc hi hx, laws_eqGift.f, if_true, Option.bind_some]
  exact eqGiftS_l xs hx n (i + 1) (by omega)
theorem eqGiftS_self (xs : List S49) (hx : xs.length ≤ 9223372036854775807) : Ev (fun k => laws_eqGiftS.f k xs xs) true := by
 unfold laws_eqGiftS.f
 simp only [if_true]
 exact eqGiftS_l xs hx xs.length 0 (by omega)
end Go.Proofs.Ytkpojaooolefjaa.A

namespace Go.Proofs.Ytkpojaooolefjaa.A
open Go.RowKit Go.Proofs.YtkpojaooolefjaaW.PrintWords Go.Proofs.YtkpojaooolefjaaW.PrintLast Go.Proofs.YtkpojaooolefjaaW.PrintMore
set_option linter.unusedVariables false
set_option linter.unusedSimpArgs false
theorem toIntS_l (xs : List Int) (hx : xs.length ≤ 35184372088832) : ∀ (n i : Nat) (ys : List Int), i + n = xs.length → ys.length = xs.length → ys.take i = xs.take i → Ev (fun k => laws_toIntS.l0 k xs ys (i : Int)) xs
 | 0, i, ys, h, hl, ht => by
  refine Ev.succ ?_
  simp only [laws_toIntS.l0, if_neg (show ¬ (i : Int) < (xs.length : Int) by omega)]
  rw [List.take_of_length_le (by omega), List.take_of_length_le (by omega)] at ht
  rw [ht]
  exact Ev.now _
 | n + 1, i, ys, h, hl, ht => by
  have hi : i < xs.length := by omega
  refine Ev.succ ?_
  simp only [laws_toIntS.l0, if_pos (show (i : Int) < (xs.length : Int) by omega), if_pos (show (i : Int) < (ys.length : Int) by omega), if_pos (show (0 : Int) ≤ (i : Int) by omega), rdn hi, wsucc hi (by omega), Int.toNat_natCast]
  refine toIntS_l xs hx n (i + 1) _ (by omega) (by rw [List.length_set]; exact hl) ?_
  rw [List.take_add_one, List.take_add_one, List.take_set_of_le (Nat.le_refl _), ht]
  congr 1
  rw [List.getElem?_set_self (by omega), List.getElem?_eq_getElem hi]
theorem toIntS_ev (xs : List Int) (hx : xs.length ≤ 35184372088832) : Ev (fun k => laws_toIntS.f k xs) xs := by
 unfold laws_toIntS.f
 simp only [if_pos (show (0 : Int) ≤ (xs.length : Int) by omega), Int.toNat_natCast, if_pos hx]
 exact toIntS_l xs hx xs.length 0 _ (by omega) (by simp) (by simp)
end Go.Proofs.Ytkpojaooolefjaa.A

/- The law FnExactGiftPath holds of the printed functions, for every argument: numbers and lists alone. -/
namespace Go.Proofs.Ytkpojaooolefjaa.Pure
open Go.RowKit Go.Proofs.Ytkpojaooolefjaa.A Go.Proofs.YtkpojaooolefjaaW.PrintWords Go.Proofs.YtkpojaooolefjaaW.PrintLast
set_option linter.unusedVariables false
set_option linter.unusedSimpArgs false
theorem FnExactGiftPath : laws_FnExactGiftPath.Pure := by
 intro l0 l1 _ _ _ _ _ _
 apply Ev.get
 unfold laws_FnExactGiftPath.f
 by_cases hl0 : (l0.length : Int) > 1048576
 · simp only [if_pos hl0]
   exact Ev.now _
 simp only [if_neg hl0]
 by_cases hl1 : (l1.length : Int) > 1048576
 · simp only [if_pos hl1]
   exact Ev.now _
 simp only [if_neg hl1]
 have hlen := pathR_len l0 l1 (by omega) (by omega) 
 refine Ev.bind (toIntS_ev l0 (by omega)) ?_
 refine Ev.bind (toIntS_ev l1 (by omega)) ?_
 refine Ev.bind (specGiftPath_ev l0 l1 (by omega) (by omega) ) ?_
 refine Ev.bind (toIntS_ev l0 (by omega)) ?_
 refine Ev.bind (toIntS_ev l1 (by omega)) ?_
 refine Ev.bind (implGiftPath_ev l0 l1 (by omega) (by omega) ) ?_
 refine Ev.bind (eqGiftS_self _ (by omega)) ?_
 first | simp only [bne_self_eq_false, if_true, Bool.false_eq_true, if_false] | skip
 refine Ev.succ ?_
 simp only [laws_FnExactGiftPath.j0, Bool.false_eq_true, if_false]
 refine Ev.bind (toIntS_ev l0 (by omega)) ?_
 refine Ev.bind (eqIntS_self _ (by omega)) ?_
 first | simp only [bne_self_eq_false, if_true, Bool.false_eq_true, if_false] | skip
 refine Ev.bind (toIntS_ev l1 (by omega)) ?_
 refine Ev.bind (eqIntS_self _ (by omega)) ?_
 first | simp only [bne_self_eq_false, if_true, Bool.false_eq_true, if_false] | skip
 refine Ev.bind (markIntS_ev l0 (1) (by omega) (by omega)) ?_
 refine Ev.bind (markIntS_ev l1 (1 + (l0.length : Int)) (by omega) (by omega)) ?_
 simp only [if_neg (show ¬ (1 + (l0.length : Int) + (l1.length : Int) : Int) < 0 by omega)]
 refine Ev.bind (eqGiftS_self _ (by omega)) ?_
 first | simp only [bne_self_eq_false, if_true, Bool.false_eq_true, if_false] | skip
 refine Ev.succ ?_
 simp only [laws_FnExactGiftPath.j1, Bool.false_eq_true, if_false]
 refine Ev.bind (markGiftS_ev (pathR l0 l1).1 (1) (by omega) (by omega)) ?_
 refine Ev.bind (heldGiftS_ev (1) _ (by omega) (by omega)) ?_
 simp only [if_neg (show ¬ (1 + 3 * ((pathR l0 l1).1.length : Int) : Int) < 0 by omega)]
 first | simp only [bne_self_eq_false, if_true, Bool.false_eq_true, if_false] | skip
 first | simp only [bne_self_eq_false, if_true, Bool.false_eq_true, if_false] | skip
 refine Ev.bind (toIntS_ev l0 (by omega)) ?_
 refine Ev.bind (toIntS_ev l1 (by omega)) ?_
 refine Ev.bind (implGiftPath_ev l0 l1 (by omega) (by omega) ) ?_
 refine Ev.bind (eqGiftS_self _ (by omega)) ?_
 first | simp only [bne_self_eq_false, if_true, Bool.false_eq_true, if_false] | skip
 refine Ev.succ ?_
 simp only [laws_FnExactGiftPath.j2, Bool.false_eq_true, if_false]
 refine Ev.bind (heldGiftS_ev (1) _ (by omega) (by omega)) ?_
 simp only [if_neg (show ¬ (1 + 3 * ((pathR l0 l1).1.length : Int) : Int) < 0 by omega)]
 first | simp only [bne_self_eq_false, if_true, Bool.false_eq_true, if_false] | skip
 first | simp only [bne_self_eq_false, if_true, Bool.false_eq_true, if_false] | skip
 exact Ev.now _
end Go.Proofs.Ytkpojaooolefjaa.Pure
