/- What the law FnExactLongestPath reaches, part 3: Lean functions with the same answers as the Go functions, the proofs that the Go code comes to these answers, and lemmas about them; no condition beyond those that each theorem names. -/
import Derived.Test.YtefbphpgaeffaaaDoorCFnExactLongestPathw1
import Derived.Shelf.Strconv.Itoa3
import Derived.Shelf.Strings.OnBuilder
import Derived.Test.YtefbphpgaeffaaaDoorProg
import Derived.Lib.Split
import Derived.Lib.IndexLaws
import Derived.Lib.IndexBytes
import Derived.Maps.OwnSet
import Derived.StringKeys
import Derived.Deep.RegionLaw
import Derived.Laws.EntriesVeiled
import Derived.Test.YtefbphpgaeffaaaDoorCFnExactLongestPath1
import Derived.Test.YtefbphpgaeffaaaDoorCFnExactLongestPath2
-- made by a program of this repo (wip/pp.py) through the kit's printer
namespace Go.Proofs.YtefbphpgaeffaaaDoor.A
open Go.RowKit Go.Proofs.YtefbphpgaeffaaaDoorW.PrintWords Go.Proofs.YtefbphpgaeffaaaDoorW.PrintLast Go.Proofs.YtefbphpgaeffaaaDoorW.PrintMore
attribute [local go_sem] max2_int min2_int max_two min_two max_three min_three max_four min_four
set_option linter.unusedVariables false
set_option linter.unusedSimpArgs false

/-! ### impl_areLists: function 23 -/
def impl_areLists.f (k : Nat) (l0 : List Int) (l1 : List Int) : Option (Bool) := (impl_IsList.f k l0).bind fun t234 => (if t234 = true then ((impl_IsList.f k l1).bind fun t235 => (some t235)) else (some false))
set_option maxHeartbeats 8000000 in
set_option maxRecDepth 100000 in
theorem impl_areLists.calls (k : Nat) (A0 : Option Addr) (c0 : Nat) (l0 : List Int) (A1 : Option Addr) (c1 : Nat) (l1 : List Int) (r : Bool) (w : World) (hr0 : Kd.C (Kd.int .i64) w A0 l0.length l0) (hc0 : l0.length ≤ c0) (hr1 : Kd.C (Kd.int .i64) w A1 l1.length l1) (hc1 : l1.length ≤ c1) (h : impl_areLists.f k l0 l1 = some r) :
 Calls Tryd.prog 23 #[.slice A0 l0.length c0, .slice A1 l1.length c1] w fun e w' => e = .returned (.bool r) ∧ Drawn0 w w' := by
 have HR0 := Aside0.mk hr0
 have HC0 := Aside0.mk hc0
 clear hr0 hc0
 have HR1 := Aside0.mk hr1
 have HC1 := Aside0.mk hc1
 clear hr1 hc1
 have H : ((impl_IsList.f k l0).bind fun t234 => (if t234 = true then ((impl_IsList.f k l1).bind fun t235 => (some t235)) else (some false))) = some r := h
 clear h
 replace H := Option.bind_eq_some_iff.mp H
 obtain ⟨t234, A30, H⟩ := H
 replace H : (if t234 = true then ((impl_IsList.f k l1).bind fun t235 => (some t235)) else (some false)) = some r := H
 have A3 := Aside0.mk A30
 clear A30
 by_cases c4 : t234 = true
 · subst c4
   have H1 : ((impl_IsList.f k l1).bind fun t235 => (some t235)) = some r := by rw [if_pos rfl] at H; exact H
   clear H
   have H := H1
   clear H1
   replace H := Option.bind_eq_some_iff.mp H
   obtain ⟨t235, A50, H⟩ := H
   replace H : (some t235) = some r := H
   have A5 := Aside0.mk A50
   clear A50
   obtain rfl := Option.some.inj H
   go_enter Tryd.func23, Tryd.ntmps23
   go_wp2_with (first | ((with_reducible refine gate_callee (f := 39) rfl ?_); refine goesL_ (some 6) rfl rfl Tryd.func39 (by kernel_rfl) rfl #[.slice A0 l0.length c0] rfl (by (try simp only [List.map_toArray, List.map_cons, List.map_nil]); first | done | rfl | (simp only [List.length_drop, List.length_take]; rfl)) ?_; (with_reducible refine (impl_IsList.calls k _ _ l0 true _ ?side1 ?side2 A3.out).mono ?_); (case side1 => repeat (first | exact HR0.out | (with_reducible refine Kd.C_alloc ?_ _) | (with_reducible refine Kd.C_drewN ?_ _) | (with_reducible refine Kd.C_drew ?_))); (case side2 => exact HC0.out); rintro e w' ⟨rfl, ⟨nd, rfl⟩⟩; refine ⟨_, rfl, ?_⟩) | (go_at_call 39; (with_reducible refine (impl_IsList.calls k _ _ l1 t235 _ ?side1 ?side2 A5.out).mono ?_); (case side1 => repeat (first | exact HR1.out | (with_reducible refine Kd.C_alloc ?_ _) | (with_reducible refine Kd.C_drewN ?_ _) | (with_reducible refine Kd.C_drew ?_))); (case side2 => exact HC1.out); rintro e w' ⟨rfl, ⟨nd, rfl⟩⟩))
   go_ret
   exact ⟨by first | rfl | (simp; done) | (simp [*]; done), by repeat (first | exact Drawn0.refl _ | apply Drawn0.step)⟩
 · replace c4 := Bool.eq_false_iff.mpr c4
   subst c4
   have H1 : (some false) = some r := by rw [if_neg (show ¬ (false = true) by decide)] at H; exact H
   clear H
   have H := H1
   clear H1
   obtain rfl := Option.some.inj H
   go_enter Tryd.func23, Tryd.ntmps23
   go_wp2_with (first | ((with_reducible refine gate_callee (f := 39) rfl ?_); refine goesL_ (some 6) rfl rfl Tryd.func39 (by kernel_rfl) rfl #[.slice A0 l0.length c0] rfl (by (try simp only [List.map_toArray, List.map_cons, List.map_nil]); first | done | rfl | (simp only [List.length_drop, List.length_take]; rfl)) ?_; (with_reducible refine (impl_IsList.calls k _ _ l0 false _ ?side1 ?side2 A3.out).mono ?_); (case side1 => repeat (first | exact HR0.out | (with_reducible refine Kd.C_alloc ?_ _) | (with_reducible refine Kd.C_drewN ?_ _) | (with_reducible refine Kd.C_drew ?_))); (case side2 => exact HC0.out); rintro e w' ⟨rfl, ⟨nd, rfl⟩⟩; refine ⟨_, rfl, ?_⟩))
   go_ret
   exact ⟨by first | rfl | (simp; done) | (simp [*]; done), by repeat (first | exact Drawn0.refl _ | apply Drawn0.step)⟩

end Go.Proofs.YtefbphpgaeffaaaDoor.A

namespace Go.Proofs.YtefbphpgaeffaaaDoor.A
open Go.RowKit Go.Proofs.YtefbphpgaeffaaaDoorW.PrintWords Go.Proofs.YtefbphpgaeffaaaDoorW.PrintLast Go.Proofs.YtefbphpgaeffaaaDoorW.PrintMore
set_option linter.unusedVariables false
set_option linter.unusedSimpArgs false
theorem foldl_add : ∀ (l : List Int) (s : Int), l.foldl (fun s x => s + x) s = s + l.sum
 | [], s => by simp
 | x :: l, s => by
  rw [List.foldl_cons, foldl_add l, List.sum_cons]
  omega
end Go.Proofs.YtefbphpgaeffaaaDoor.A

namespace Go.Proofs.YtefbphpgaeffaaaDoor.A
open Go.RowKit Go.Proofs.YtefbphpgaeffaaaDoorW.PrintWords Go.Proofs.YtefbphpgaeffaaaDoorW.PrintLast Go.Proofs.YtefbphpgaeffaaaDoorW.PrintMore
set_option linter.unusedVariables false
set_option linter.unusedSimpArgs false
theorem liSum_ev (l : List Int) (h : Sm l) : Ev (fun k => spec_liSum.f k l) l.sum := by
 unfold spec_liSum.f
 have hl := h.1
 have h := ev_fold (xs := l) (g := fun k s i => spec_liSum.l0 k s l (l.length : Int) i) (fun s x => s + x) (fun s i => 0 ≤ s ∧ s ≤ 1000 * (i : Int)) id
  (fun s _ => Ev.succ (by simp only [spec_liSum.l0, if_neg (Int.lt_irrefl _)]; exact Ev.now _))
  (fun i hi s r hs _ hr => Ev.succ (by
   have hb := h.2 _ (List.getElem_mem hi)
   simp only [spec_liSum.l0, if_pos (show (i : Int) < (l.length : Int) by omega), if_pos (show (0 : Int) ≤ (i : Int) by omega), rdn hi, wsucc hi (by omega), w64 (x := s + l[i]) (by omega) (by omega)]
   exact hr))
  (fun i hi s hs => by
   have hb := h.2 _ (List.getElem_mem hi)
   omega) l.length 0 0 (by omega) (by omega)
 rw [List.drop_zero, foldl_add, Int.zero_add] at h
 exact h
theorem total_ev (l : List Int) (h : Sm l) : Ev (fun k => impl_total.f k l) l.sum := by
 unfold impl_total.f
 have hl := h.1
 have h := ev_fold (xs := l) (g := fun k s i => impl_total.l0 k s l (l.length : Int) i) (fun s x => s + x) (fun s i => 0 ≤ s ∧ s ≤ 1000 * (i : Int)) id
  (fun s _ => Ev.succ (by simp only [impl_total.l0, if_neg (Int.lt_irrefl _)]; exact Ev.now _))
  (fun i hi s r hs _ hr => Ev.succ (by
   have hb := h.2 _ (List.getElem_mem hi)
   simp only [impl_total.l0, if_pos (show (i : Int) < (l.length : Int) by omega), if_pos (show (0 : Int) ≤ (i : Int) by omega), rdn hi, wsucc hi (by omega), w64 (x := s + l[i]) (by omega) (by omega)]
   exact hr))
  (fun i hi s hs => by
   have hb := h.2 _ (List.getElem_mem hi)
   omega) l.length 0 0 (by omega) (by omega)
 rw [List.drop_zero, foldl_add, Int.zero_add] at h
 exact h
def fitB (a b : List Int) : Bool := if (a.length : Int) = (b.length : Int) then (a.sum == b.sum) else false
theorem fitB_iff (a b : List Int) : fitB a b = true ↔ a.length = b.length ∧ a.sum = b.sum := by
 unfold fitB
 by_cases h : (a.length : Int) = (b.length : Int)
 · rw [if_pos h, beq_iff_eq]
   exact ⟨fun h' => ⟨by omega, h'⟩, fun h' => h'.2⟩
 · rw [if_neg h]
   exact ⟨fun h' => absurd h' (by decide), fun h' => absurd h'.1 (by omega)⟩
theorem liFit_ev (a b : List Int) (ha : Sm a) (hb : Sm b) : Ev (fun k => spec_liFit.f k a b) (fitB a b) := by
 unfold spec_liFit.f fitB
 exact Ev.ite (fun _ => Ev.bind (liSum_ev a ha) (Ev.bind (liSum_ev b hb) (Ev.now _))) (fun _ => Ev.now _)
theorem doFit_ev (a b : List Int) (ha : Sm a) (hb : Sm b) : Ev (fun k => impl_doFit.f k a b) (fitB a b) := by
 unfold impl_doFit.f fitB
 exact Ev.ite (fun _ => Ev.bind (total_ev a ha) (Ev.bind (total_ev b hb) (Ev.now _))) (fun _ => Ev.now _)
theorem areLists_ev (a b : List Int) (ha : a.length ≤ 1048576) (hb : b.length ≤ 1048576) : Ev (fun k => impl_areLists.f k a b) (if goodL a = true then goodL b else false) := by
 unfold impl_areLists.f
 exact Ev.bind (implIsList_ev a (by omega)) (Ev.ite (fun _ => Ev.bind (implIsList_ev b (by omega)) (Ev.now _)) (fun _ => Ev.now _))
end Go.Proofs.YtefbphpgaeffaaaDoor.A

namespace Go.Proofs.YtefbphpgaeffaaaDoor.A
open Go.RowKit Go.Proofs.YtefbphpgaeffaaaDoorW.PrintWords Go.Proofs.YtefbphpgaeffaaaDoorW.PrintLast Go.Proofs.YtefbphpgaeffaaaDoorW.PrintMore
set_option linter.unusedVariables false
set_option linter.unusedSimpArgs false
def overL : Int → List Int → List Int → Int
 | i, x :: xs, y :: ys => if x > y then i + 1 else overL (i + 1) xs ys
 | _, _, _ => 0
theorem liOver_l (p q : List Int) (h : p.length ≤ q.length) (hp : p.length ≤ 1000000) : ∀ (n i : Nat), i + n = p.length → Ev (fun k => spec_liOver.l0 k p q (p.length : Int) (i : Int)) (overL (i : Int) (p.drop i) (q.drop i))
 | 0, i, hi => by
  refine Ev.succ ?_
  simp only [spec_liOver.l0, if_neg (show ¬ (i : Int) < (p.length : Int) by omega)]
  rw [List.drop_eq_nil_of_le (by omega), overL]
  exact Ev.now _
  simp
 | n + 1, i, hi => by
  have h1 : i < p.length := by omega
  have h2 : i < q.length := by omega
  refine Ev.succ ?_
  simp only [spec_liOver.l0, if_pos (show (i : Int) < (p.length : Int) by omega), if_pos (show (i : Int) < (q.length : Int) by omega), if_pos (show (0 : Int) ≤ (i : Int) by omega), rdn h1, rdn h2, wsucc h1 (by omega)]
  rw [List.drop_eq_getElem_cons h1, List.drop_eq_getElem_cons h2, overL]
  refine Ev.ite (fun _ => ?_) (fun _ => ?_)
  · rw [show ((i : Int) + 1) = ((i + 1 : Nat) : Int) by omega]
    exact Ev.now _
  · rw [show ((i : Int) + 1) = ((i + 1 : Nat) : Int) by omega]
    exact liOver_l p q h hp n (i + 1) (by omega)
theorem refused_l (p q : List Int) (h : p.length ≤ q.length) (hp : p.length ≤ 1000000) : ∀ (n i : Nat), i + n = p.length → Ev (fun k => impl_refused.l0 k q p (p.length : Int) (i : Int)) (overL (i : Int) (p.drop i) (q.drop i))
 | 0, i, hi => by
  refine Ev.succ ?_
  simp only [impl_refused.l0, if_neg (show ¬ (i : Int) < (p.length : Int) by omega)]
  rw [List.drop_eq_nil_of_le (by omega), overL]
  exact Ev.now _
  simp
 | n + 1, i, hi => by
  have h1 : i < p.length := by omega
  have h2 : i < q.length := by omega
  refine Ev.succ ?_
  simp only [impl_refused.l0, if_pos (show (i : Int) < (p.length : Int) by omega), if_pos (show (i : Int) < (q.length : Int) by omega), if_pos (show (0 : Int) ≤ (i : Int) by omega), rdn h1, rdn h2, wsucc h1 (by omega)]
  rw [List.drop_eq_getElem_cons h1, List.drop_eq_getElem_cons h2, overL]
  refine Ev.ite (fun _ => ?_) (fun _ => ?_)
  · rw [show ((i : Int) + 1) = ((i + 1 : Nat) : Int) by omega]
    exact Ev.now _
  · rw [show ((i : Int) + 1) = ((i + 1 : Nat) : Int) by omega]
    exact refused_l p q h hp n (i + 1) (by omega)
def overR (a b : List Int) : Int := overL 0 (partL a) (partL b)
theorem liOver_ev (a b : List Int) (ha : Sm a) (hb : Sm b) (h : a.length ≤ b.length) : Ev (fun k => spec_liOver.f k a b) (overR a b) := by
 unfold spec_liOver.f
 exact Ev.bind (liPartial_ev a ha) (Ev.bind (liPartial_ev b hb) (liOver_l _ _ (by rw [partL_length, partL_length]; exact h) (by rw [partL_length]; have := ha.1; omega) (partL a).length 0 (by omega)))
theorem refused_ev (a b : List Int) (ha : Sm a) (hb : Sm b) (h : a.length ≤ b.length) : Ev (fun k => impl_refused.f k a b) (overR a b) := by
 unfold impl_refused.f
 exact Ev.bind (partial_ev b hb) (Ev.bind (partial_ev a ha) (refused_l _ _ (by rw [partL_length, partL_length]; exact h) (by rw [partL_length]; have := ha.1; omega) (partL a).length 0 (by omega)))
theorem overL_zero : ∀ (p q : List Int) (i : Int), 0 ≤ i → (overL i p q = 0 ↔ ∀ (j : Nat) (h1 : j < p.length) (h2 : j < q.length), p[j] ≤ q[j])
 | [], q, i, _ => by simp [overL]
 | x :: p, [], i, _ => by simp [overL]
 | x :: p, y :: q, i, h => by
  unfold overL
  by_cases c : x > y
  · rw [if_pos c]
    refine ⟨fun h' => by omega, fun h' => ?_⟩
    have := h' 0 (by simp) (by simp)
    simp only [List.getElem_cons_zero] at this
    omega
  · rw [if_neg c, overL_zero p q (i + 1) (by omega)]
    constructor
    · intro h' j h1 h2
      cases j with
      | zero => simp only [List.getElem_cons_zero]; omega
      | succ j =>
       rw [List.getElem_cons_succ, List.getElem_cons_succ]
       exact h' j (by rw [List.length_cons] at h1; omega) (by rw [List.length_cons] at h2; omega)
    · intro h' j h1 h2
      have h3 := h' (j + 1) (by rw [List.length_cons]; omega) (by rw [List.length_cons]; omega)
      rw [List.getElem_cons_succ, List.getElem_cons_succ] at h3
      exact h3
def majB (a b : List Int) : Bool := if fitB a b = true then (overR a b == 0) else false
theorem liBelow_ev (a b : List Int) (ha : Sm a) (hb : Sm b) : Ev (fun k => spec_liBelow.f k a b) (majB a b) := by
 unfold spec_liBelow.f majB
 exact Ev.bind (liFit_ev a b ha hb) (Ev.ite (fun h => Ev.bind (liOver_ev a b ha hb (by have := (fitB_iff a b).1 h; omega)) (Ev.now _)) (fun _ => Ev.now _))
theorem isMajorized_ev (a b : List Int) (ha : Sm a) (hb : Sm b) : Ev (fun k => impl_isMajorized.f k a b) (majB a b) := by
 unfold impl_isMajorized.f majB
 exact Ev.bind (doFit_ev a b ha hb) (Ev.ite (fun h => Ev.bind (refused_ev a b ha hb (by have := (fitB_iff a b).1 h; omega)) (Ev.now _)) (fun _ => Ev.now _))
theorem majB_iff (a b : List Int) : majB a b = true ↔ a.length = b.length ∧ a.sum = b.sum ∧ ∀ (j : Nat) (h1 : j < (partL a).length) (h2 : j < (partL b).length), (partL a)[j] ≤ (partL b)[j] := by
 unfold majB overR
 by_cases h : fitB a b = true
 · rw [if_pos h, beq_iff_eq, overL_zero _ _ _ (Int.le_refl _)]
   have := (fitB_iff a b).1 h
   simp only [this, true_and]
 · rw [if_neg h]
   rw [fitB_iff] at h
   constructor
   · intro h'
     exact absurd h' (by decide)
   · intro h'
     exact absurd ⟨h'.1, h'.2.1⟩ h
end Go.Proofs.YtefbphpgaeffaaaDoor.A

namespace Go.Proofs.YtefbphpgaeffaaaDoor.A
open Go.RowKit Go.Proofs.YtefbphpgaeffaaaDoorW.PrintWords Go.Proofs.YtefbphpgaeffaaaDoorW.PrintLast Go.Proofs.YtefbphpgaeffaaaDoorW.PrintMore
set_option linter.unusedVariables false
set_option linter.unusedSimpArgs false
def pre (x : List Int) (m : Nat) : Int := (x.take m).sum
theorem pre_zero (x : List Int) : pre x 0 = 0 := rfl
theorem pre_succ {x : List Int} {m : Nat} (h : m < x.length) : pre x (m + 1) = pre x m + rd x (m : Int) := by
 unfold pre
 rw [List.take_succ_eq_append_getElem h, List.sum_append, rdn h, List.sum_cons, List.sum_nil, Int.add_zero]
theorem pre_all {x : List Int} {m : Nat} (h : x.length ≤ m) : pre x m = x.sum := by
 unfold pre
 rw [List.take_of_length_le h]
theorem psums_get : ∀ (l : List Int) (s : Int) (j : Nat) (h : j < (psums s l).length), (psums s l)[j] = s + pre l (j + 1)
 | [], s, j, h => by simp [psums] at h
 | x :: l, s, 0, h => by simp [psums, pre]
 | x :: l, s, j + 1, h => by
  have h' : j < (psums (s + x) l).length := by
   rw [psums, List.length_cons] at h
   omega
  have := psums_get l (s + x) j h'
  simp only [psums, List.getElem_cons_succ]
  rw [this]
  simp only [pre, List.take_succ_cons, List.sum_cons]
  omega
/-- Every partial sum of t is at most that of x; the sums are one. -/
def Dom (x t : List Int) : Prop := x.length = t.length ∧ x.sum = t.sum ∧ ∀ m, pre t m ≤ pre x m
theorem majB_dom (a b : List Int) : majB a b = true ↔ Dom (descL b) (descL a) := by
 rw [majB_iff]
 unfold Dom
 rw [descL_length, descL_length, descL_sum, descL_sum]
 constructor
 · rintro ⟨h1, h2, h3⟩
   refine ⟨h1.symm, h2.symm, fun m => ?_⟩
   cases m with
   | zero => rw [pre_zero, pre_zero]; exact Int.le_refl _
   | succ m =>
    by_cases hm : m < a.length
    · have h := h3 m (by rw [partL_length]; exact hm) (by rw [partL_length]; omega)
      unfold partL at h
      rw [psums_get, psums_get] at h
      omega
    · rw [pre_all (by rw [descL_length]; omega), pre_all (by rw [descL_length]; omega), descL_sum, descL_sum]
      omega
 · rintro ⟨h1, h2, h3⟩
   refine ⟨h1.symm, h2.symm, fun j q1 q2 => ?_⟩
   have e1 : (partL a)[j] = 0 + pre (descL a) (j + 1) := psums_get _ _ _ q1
   have e2 : (partL b)[j] = 0 + pre (descL b) (j + 1) := psums_get _ _ _ q2
   have := h3 (j + 1)
   omega
theorem desc_rd {x : List Int} (h : Desc x) {a b : Nat} (hab : a ≤ b) (hb : b < x.length) : rd x (b : Int) ≤ rd x (a : Int) := by
 rw [rdn hb, rdn (show a < x.length by omega)]
 rcases Nat.lt_or_ge a b with hlt | hge
 · unfold Desc at h
   exact List.pairwise_iff_getElem.1 h a b (by omega) hb hlt
 · have : a = b := by omega
   subst this
   exact Int.le_refl _
theorem giveL_length (l : List Int) (f t a : Int) : (giveL l f t a).length = l.length := by
 unfold giveL
 rw [List.length_set, List.length_set]
theorem giveL_rd (l : List Int) (i j : Nat) (a : Int) (hi : i < l.length) (hj : j < l.length) (hij : i ≠ j) (k : Nat) : rd (giveL l (i : Int) (j : Int) a) (k : Int) = if k = j then rd l (j : Int) + a else if k = i then rd l (i : Int) - a else rd l (k : Int) := by
 unfold giveL
 by_cases h1 : k = j
 · subst h1
   rw [if_pos rfl, rd_set_self _ (by omega) (by rw [List.length_set]; omega)]
 · rw [if_neg h1, rd_set_ne _ (by omega) (by omega) (by omega)]
   by_cases h2 : k = i
   · subst h2
     rw [if_pos rfl, rd_set_self _ (by omega) (by omega)]
   · rw [if_neg h2, rd_set_ne _ (by omega) (by omega) (by omega)]
theorem giveL_pre (l : List Int) (i j : Nat) (a : Int) (hi : i < l.length) (hj : j < l.length) (hij : i ≠ j) : ∀ m : Nat, m ≤ l.length → pre (giveL l (i : Int) (j : Int) a) m = pre l m - (if i < m then a else 0) + (if j < m then a else 0)
 | 0, _ => by rw [pre_zero, pre_zero, if_neg (by omega), if_neg (by omega)]; omega
 | m + 1, h => by
  rw [pre_succ (by rw [giveL_length]; omega), pre_succ (by omega), giveL_pre l i j a hi hj hij m (by omega), giveL_rd l i j a hi hj hij m]
  by_cases h1 : m = j
  · subst h1
    rw [if_pos rfl, if_neg (show ¬ m < m by omega), if_pos (show m < m + 1 by omega)]
    by_cases h3 : i < m
    · rw [if_pos h3, if_pos (by omega)]; omega
    · rw [if_neg h3, if_neg (by omega)]; omega
  · rw [if_neg h1]
    by_cases h2 : m = i
    · subst h2
      rw [if_pos rfl, if_neg (show ¬ m < m by omega), if_pos (show m < m + 1 by omega)]
      by_cases h3 : j < m
      · rw [if_pos h3, if_pos (by omega)]; omega
      · rw [if_neg h3, if_neg (by omega)]; omega
    · rw [if_neg h2]
      have e1 : i < m + 1 ↔ i < m := by omega
      have e2 : j < m + 1 ↔ j < m := by omega
      simp only [e1, e2]
      omega
theorem giveL_sum (l : List Int) (i j : Nat) (a : Int) (hi : i < l.length) (hj : j < l.length) (hij : i ≠ j) : (giveL l (i : Int) (j : Int) a).sum = l.sum := by
 have h := giveL_pre l i j a hi hj hij l.length (Nat.le_refl _)
 rw [pre_all (by rw [giveL_length]; omega), pre_all (Nat.le_refl _), if_pos hi, if_pos hj] at h
 omega
end Go.Proofs.YtefbphpgaeffaaaDoor.A

namespace Go.Proofs.YtefbphpgaeffaaaDoor.A
open Go.RowKit Go.Proofs.YtefbphpgaeffaaaDoorW.PrintWords Go.Proofs.YtefbphpgaeffaaaDoorW.PrintLast Go.Proofs.YtefbphpgaeffaaaDoorW.PrintMore
set_option linter.unusedVariables false
set_option linter.unusedSimpArgs false
theorem majB_descR (a x : List Int) : majB a (descL x) = majB a x := by
 have h : majB a (descL x) = true ↔ majB a x = true := by
  rw [majB_dom, majB_dom, descL_descL]
 cases h1 : majB a (descL x) <;> cases h2 : majB a x <;> simp_all
/-- Whether a unit gift leads to a list that majorizes a still. -/
def unitB (p a : List Int) (i j : Nat) : Bool := kindB p (i : Int) (j : Int) 1 && majB a (giveL p (i : Int) (j : Int) 1)
def unitF (p a : List Int) (i j : Nat) : Option (List Int) := if unitB p a i j = true then some (descL (giveL p (i : Int) (j : Int) 1)) else none
def rowU (p a : List Int) (i j d : Nat) : List (List Int) := (List.range' j d).filterMap (unitF p a i)
def allU (p a : List Int) (i d : Nat) : List (List Int) := (List.range' i d).flatMap fun i => rowU p a i 0 p.length
theorem rowU_succ (p a : List Int) (i j d : Nat) : rowU p a i j (d + 1) = (if unitB p a i j = true then [descL (giveL p (i : Int) (j : Int) 1)] else []) ++ rowU p a i (j + 1) d := by
 unfold rowU
 rw [List.range'_succ, List.filterMap_cons]
 unfold unitF
 by_cases h : unitB p a i j = true
 · simp only [if_pos h]
   rfl
 · simp only [if_neg h]
   rfl
theorem rowU_le (p a : List Int) (i j d : Nat) : (rowU p a i j d).length ≤ d := by
 unfold rowU
 have := List.length_filterMap_le (unitF p a i) (List.range' j d)
 rw [List.length_range'] at this
 exact this
theorem allU_succ (p a : List Int) (i d : Nat) : allU p a i (d + 1) = rowU p a i 0 p.length ++ allU p a (i + 1) d := by
 unfold allU
 rw [List.range'_succ, List.flatMap_cons]
theorem allU_le (p a : List Int) : ∀ (d i : Nat), (allU p a i d).length ≤ d * p.length
 | 0, i => by simp [allU]
 | d + 1, i => by
  rw [allU_succ, List.length_append, Nat.succ_mul]
  have := allU_le p a d (i + 1)
  have := rowU_le p a i 0 p.length
  omega
theorem unit_giveI {p : List Int} {i j : Nat} (hg : goodL p = true) (h : kindB p (i : Int) (j : Int) 1 = true) : canB p (i : Int) (j : Int) 1 = true ∧ goodL (giveL p (i : Int) (j : Int) 1) = true := by
 unfold kindB at h
 simp only [Bool.and_eq_true, decide_eq_true_eq] at h
 obtain ⟨h1, h2, h3⟩ := h
 obtain ⟨q1, q2, q3, q4⟩ := (isG_iff _ _ _ _).1 h1
 have b1 := rd_good hg q1.1 q1.2
 have b2 := rd_good hg q2.1 q2.2
 exact ⟨(canB_iff _ _ _ _).2 ⟨h1, by omega, by omega⟩, (give_good p _ _ _ _ hg q1 q2 q3).2 (by omega)⟩
theorem implUnits_row (p a : List Int) (hp : goodL p = true) (ha : Sm a) (i : Nat) (r : List (List Int)) : ∀ (d j : Nat) (acc : List (List Int)), j + d = p.length → acc.length + d ≤ 1000000 → Ev (fun k => impl_unitsFrom.l0 k p a (acc ++ rowU p a i j d) (p.length : Int) (wrap64 ((i : Int) + 1))) r → Ev (fun k => impl_unitsFrom.l1 k p a acc (i : Int) (p.length : Int) (i : Int) (p.length : Int) (j : Int)) r
 | 0, j, acc, h, hb, hr => by
  refine Ev.succ ?_
  simp only [impl_unitsFrom.l1, if_neg (show ¬ (j : Int) < (p.length : Int) by omega)]
  simpa [rowU] using hr
 | d + 1, j, acc, h, hb, hr => by
  have hj : j < p.length := by omega
  have hlen := (goodL_iff p).1 hp
  refine Ev.succ ?_
  simp only [impl_unitsFrom.l1, if_pos (show (j : Int) < (p.length : Int) by omega), isKind_eq p _ _ _ hp, Option.bind_some, wsucc hj (by omega)]
  rw [rowU_succ] at hr
  by_cases hk : kindB p (i : Int) (j : Int) 1 = true
  · obtain ⟨hc, hgg⟩ := unit_giveI hp hk
    simp only [hk, if_true, given_can p _ _ _ hp hc, ranking_eq (good_sm hgg), Option.bind_some]
    refine Ev.bind (isMajorized_ev a _ ha (sm_desc (good_sm hgg))) ?_
    rw [majB_descR]
    by_cases hm : majB a (giveL p (i : Int) (j : Int) 1) = true
    · have hu : unitB p a i j = true := by unfold unitB; rw [hk, hm]; rfl
      rw [if_pos hu] at hr
      simp only [hm, if_true, if_pos (show acc.length < 5864062014805 by omega)]
      exact implUnits_row p a hp ha i r d (j + 1) _ (by omega) (by rw [List.length_append, List.length_singleton]; omega) (by rw [List.append_assoc]; exact hr)
    · have hu : ¬ unitB p a i j = true := by unfold unitB; rw [hk, Bool.eq_false_iff.2 hm]; decide
      rw [if_neg hu, List.nil_append] at hr
      simp only [if_neg hm]
      exact implUnits_row p a hp ha i r d (j + 1) _ (by omega) (by omega) hr
  · have hu : ¬ unitB p a i j = true := by unfold unitB; rw [Bool.eq_false_iff.2 hk]; exact Bool.false_ne_true
    rw [if_neg hu, List.nil_append] at hr
    simp only [if_neg hk]
    exact implUnits_row p a hp ha i r d (j + 1) _ (by omega) (by omega) hr
theorem implUnits_all (p a : List Int) (hp : goodL p = true) (ha : Sm a) : ∀ (d i : Nat) (acc : List (List Int)), i + d = p.length → acc.length + d * p.length ≤ 1000 → Ev (fun k => impl_unitsFrom.l0 k p a acc (p.length : Int) (i : Int)) (acc ++ allU p a i d)
 | 0, i, acc, h, hb => by
  refine Ev.succ ?_
  simp only [impl_unitsFrom.l0, if_neg (show ¬ (i : Int) < (p.length : Int) by omega)]
  simp only [allU, List.range'_zero, List.flatMap_nil, List.append_nil]
  exact Ev.now _
 | d + 1, i, acc, h, hb => by
  have hlen := (goodL_iff p).1 hp
  rw [Nat.succ_mul] at hb
  refine Ev.succ ?_
  simp only [impl_unitsFrom.l0, if_pos (show (i : Int) < (p.length : Int) by omega)]
  refine implUnits_row p a hp ha i _ p.length 0 acc (by omega) (by omega) ?_
  rw [wsucc (show i < p.length by omega) (by omega), allU_succ, ← List.append_assoc]
  have hr := rowU_le p a i 0 p.length
  exact implUnits_all p a hp ha d (i + 1) _ (by omega) (by rw [List.length_append]; omega)
theorem unitsFrom_ev (p a : List Int) (hp : goodL p = true) (ha : Sm a) : Ev (fun k => impl_unitsFrom.f k p a) (allU p a 0 p.length) := by
 have hlen := (goodL_iff p).1 hp
 have hm : p.length * p.length ≤ 8 * 8 := Nat.mul_le_mul hlen.2.1 hlen.2.1
 have := implUnits_all p a hp ha p.length 0 [] (by omega) (by rw [List.length_nil]; omega)
 rw [List.nil_append] at this
 exact this
end Go.Proofs.YtefbphpgaeffaaaDoor.A

namespace Go.Proofs.YtefbphpgaeffaaaDoor.A
open Go.RowKit Go.Proofs.YtefbphpgaeffaaaDoorW.PrintWords Go.Proofs.YtefbphpgaeffaaaDoorW.PrintLast Go.Proofs.YtefbphpgaeffaaaDoorW.PrintMore
set_option linter.unusedVariables false
set_option linter.unusedSimpArgs false
end Go.Proofs.YtefbphpgaeffaaaDoor.A

namespace Go.Proofs.YtefbphpgaeffaaaDoor.A
open Go.RowKit Go.Proofs.YtefbphpgaeffaaaDoorW.PrintWords Go.Proofs.YtefbphpgaeffaaaDoorW.PrintLast Go.Proofs.YtefbphpgaeffaaaDoorW.PrintMore
set_option linter.unusedVariables false
set_option linter.unusedSimpArgs false
end Go.Proofs.YtefbphpgaeffaaaDoor.A

namespace Go.Proofs.YtefbphpgaeffaaaDoor.A
open Go.RowKit Go.Proofs.YtefbphpgaeffaaaDoorW.PrintWords Go.Proofs.YtefbphpgaeffaaaDoorW.PrintLast Go.Proofs.YtefbphpgaeffaaaDoorW.PrintMore
set_option linter.unusedVariables false
set_option linter.unusedSimpArgs false
end Go.Proofs.YtefbphpgaeffaaaDoor.A

namespace Go.Proofs.YtefbphpgaeffaaaDoor.A
open Go.RowKit Go.Proofs.YtefbphpgaeffaaaDoorW.PrintWords Go.Proofs.YtefbphpgaeffaaaDoorW.PrintLast Go.Proofs.YtefbphpgaeffaaaDoorW.PrintMore
set_option linter.unusedVariables false
set_option linter.unusedSimpArgs false
end Go.Proofs.YtefbphpgaeffaaaDoor.A

namespace Go.Proofs.YtefbphpgaeffaaaDoor.A
open Go.RowKit Go.Proofs.YtefbphpgaeffaaaDoorW.PrintWords Go.Proofs.YtefbphpgaeffaaaDoorW.PrintLast Go.Proofs.YtefbphpgaeffaaaDoorW.PrintMore
set_option linter.unusedVariables false
set_option linter.unusedSimpArgs false
/-! being majorized, told by the excess over each number -/
def ex (l : List Int) (t : Int) : Int := (l.map fun x => max (x - t) 0).sum
theorem ex_nil (t : Int) : ex [] t = 0 := rfl
theorem ex_cons (x : Int) (l : List Int) (t : Int) : ex (x :: l) t = max (x - t) 0 + ex l t := by simp [ex]
theorem ex_perm {a b : List Int} (h : a.Perm b) (t : Int) : ex a t = ex b t := perm_sum (h.map _)
theorem ex_desc (a : List Int) (t : Int) : ex (descL a) t = ex a t := ex_perm (descL_perm a) t
theorem ex_nn : ∀ (l : List Int) (t : Int), 0 ≤ ex l t
 | [], t => by rw [ex_nil]; exact Int.le_refl _
 | x :: l, t => by
  have := ex_nn l t
  rw [ex_cons]
  omega
theorem pre_cons (x : Int) (l : List Int) (m : Nat) : pre (x :: l) (m + 1) = x + pre l m := by simp [pre]
theorem pre_ex (t : Int) : ∀ (l : List Int) (m : Nat), m ≤ l.length → pre l m ≤ m * t + ex l t
 | l, 0, _ => by
  have := ex_nn l t
  rw [pre_zero]
  simp
  exact this
 | [], m + 1, h => by simp at h
 | x :: l, m + 1, h => by
  have ih := pre_ex t l m (by simpa using h)
  rw [pre_cons, ex_cons, Int.natCast_add, Int.add_mul]
  simp only [Int.natCast_one, Int.one_mul]
  omega
theorem pre_ex_eq (t : Int) : ∀ (l : List Int) (k : Nat), k ≤ l.length → (∀ i (h : i < l.length), i < k → t ≤ l[i]) → (∀ i (h : i < l.length), k ≤ i → l[i] ≤ t) → pre l k = k * t + ex l t
 | [], k, h, _, _ => by
  have : k = 0 := by simpa using h
  subst this
  simp [pre_zero, ex_nil]
 | x :: l, 0, h, h1, h2 => by
  have ih := pre_ex_eq t l 0 (Nat.zero_le _) (fun i _ hi => absurd hi (Nat.not_lt_zero _)) (fun i hi _ => h2 (i + 1) (by simpa using hi) (Nat.zero_le _))
  have hx : x ≤ t := h2 0 (by simp) (Nat.le_refl _)
  rw [pre_zero] at ih ⊢
  rw [ex_cons]
  simp at ih ⊢
  omega
 | x :: l, k + 1, h, h1, h2 => by
  have ih := pre_ex_eq t l k (by simpa using h) (fun i hi hk => h1 (i + 1) (by simpa using hi) (by omega)) (fun i hi hk => h2 (i + 1) (by simpa using hi) (by omega))
  have hx : t ≤ x := h1 0 (by simp) (by omega)
  rw [pre_cons, ex_cons, Int.natCast_add, Int.add_mul]
  simp only [Int.natCast_one, Int.one_mul]
  omega
theorem cut_exists (t : Int) : ∀ (l : List Int), Desc l → ∃ k, k ≤ l.length ∧ (∀ i (h : i < l.length), i < k → t ≤ l[i]) ∧ (∀ i (h : i < l.length), k ≤ i → l[i] ≤ t)
 | [], _ => ⟨0, Nat.le_refl _, fun i h => absurd h (Nat.not_lt_zero _), fun i h => absurd h (Nat.not_lt_zero _)⟩
 | x :: l, hd => by
  unfold Desc at hd
  rw [List.pairwise_cons] at hd
  by_cases hx : t ≤ x
  · obtain ⟨k, h1, h2, h3⟩ := cut_exists t l hd.2
    refine ⟨k + 1, by simpa using h1, fun i h hi => ?_, fun i h hi => ?_⟩
    · cases i with
      | zero => exact hx
      | succ i => exact h2 i (by simpa using h) (by omega)
    · cases i with
      | zero => omega
      | succ i => exact h3 i (by simpa using h) (by omega)
  · refine ⟨0, Nat.zero_le _, fun i h hi => absurd hi (Nat.not_lt_zero _), fun i h _ => ?_⟩
    cases i with
    | zero =>
     show x ≤ t
     omega
    | succ i =>
     have hi : i < l.length := by simpa using h
     have := hd.1 l[i] (List.getElem_mem hi)
     show l[i] ≤ t
     omega
theorem ex_pre {l : List Int} (hd : Desc l) (t : Int) : ∃ k, k ≤ l.length ∧ pre l k = k * t + ex l t := by
 obtain ⟨k, h1, h2, h3⟩ := cut_exists t l hd
 exact ⟨k, h1, pre_ex_eq t l k h1 h2 h3⟩
theorem pre_at {l : List Int} (hd : Desc l) (m : Nat) (hm : m < l.length) : pre l (m + 1) = (m + 1 : Nat) * rd l (m : Int) + ex l (rd l (m : Int)) := by
 refine pre_ex_eq _ l (m + 1) hm (fun i h hi => ?_) (fun i h hi => ?_)
 · have := desc_rd hd (show i ≤ m by omega) hm
   rw [rdn h] at this
   exact this
 · have := desc_rd hd (show m ≤ i by omega) h
   rw [rdn h] at this
   exact this
theorem dom_ex {x y : List Int} (hx : Desc x) (hy : Desc y) : Dom y x ↔ x.length = y.length ∧ x.sum = y.sum ∧ ∀ t, ex x t ≤ ex y t := by
 unfold Dom
 constructor
 · rintro ⟨h1, h2, h3⟩
   refine ⟨h1.symm, h2.symm, fun t => ?_⟩
   obtain ⟨k, hk, e⟩ := ex_pre hx t
   have a := h3 k
   have b := pre_ex t y k (by omega)
   omega
 · rintro ⟨h1, h2, h3⟩
   refine ⟨h1.symm, h2.symm, fun m => ?_⟩
   cases m with
   | zero => rw [pre_zero, pre_zero]; exact Int.le_refl _
   | succ m =>
    by_cases hm : m < y.length
    · have a := pre_at hy m hm
      have b := pre_ex (rd y (m : Int)) x (m + 1) (by omega)
      have c := h3 (rd y (m : Int))
      omega
    · rw [pre_all (by omega), pre_all (by omega)]
      omega
theorem maj_ex (a b : List Int) : majB a b = true ↔ a.length = b.length ∧ a.sum = b.sum ∧ ∀ t, ex a t ≤ ex b t := by
 rw [majB_dom, dom_ex (descL_desc a) (descL_desc b), descL_length, descL_length, descL_sum, descL_sum]
 simp only [ex_desc]
theorem maj_trans {a b c : List Int} (h1 : majB a b = true) (h2 : majB b c = true) : majB a c = true := by
 rw [maj_ex] at *
 exact ⟨by omega, by omega, fun t => Int.le_trans (h1.2.2 t) (h2.2.2 t)⟩
theorem maj_refl (a : List Int) : majB a a = true := (maj_ex a a).2 ⟨rfl, rfl, fun _ => Int.le_refl _⟩
end Go.Proofs.YtefbphpgaeffaaaDoor.A

namespace Go.Proofs.YtefbphpgaeffaaaDoor.A
open Go.RowKit Go.Proofs.YtefbphpgaeffaaaDoorW.PrintWords Go.Proofs.YtefbphpgaeffaaaDoorW.PrintLast Go.Proofs.YtefbphpgaeffaaaDoorW.PrintMore
set_option linter.unusedVariables false
set_option linter.unusedSimpArgs false
theorem maj_desc_l (a b : List Int) : majB (descL a) b = majB a b := by
 rw [Bool.eq_iff_iff, maj_ex, maj_ex, descL_length, descL_sum]
 simp only [ex_desc]
end Go.Proofs.YtefbphpgaeffaaaDoor.A

namespace Go.Proofs.YtefbphpgaeffaaaDoor.A
open Go.RowKit Go.Proofs.YtefbphpgaeffaaaDoorW.PrintWords Go.Proofs.YtefbphpgaeffaaaDoorW.PrintLast Go.Proofs.YtefbphpgaeffaaaDoorW.PrintMore
set_option linter.unusedVariables false
set_option linter.unusedSimpArgs false
theorem l1Least_eq (a b : Int) : spec_l1Least.f a b = some (min a b) := by
 unfold spec_l1Least.f
 split <;> (congr 1; omega)
end Go.Proofs.YtefbphpgaeffaaaDoor.A

namespace Go.Proofs.YtefbphpgaeffaaaDoor.A
open Go.RowKit Go.Proofs.YtefbphpgaeffaaaDoorW.PrintWords Go.Proofs.YtefbphpgaeffaaaDoorW.PrintLast Go.Proofs.YtefbphpgaeffaaaDoorW.PrintMore
set_option linter.unusedVariables false
set_option linter.unusedSimpArgs false
/-- The lists that begin with t, t - 1, .. as long as these are big enough. -/
def allGo (F : Int → List (List Int)) (n s : Int) : Nat → List (List Int)
 | 0 => if 0 * n ≥ s then F 0 else []
 | t + 1 => if ((t + 1 : Nat) : Int) * n ≥ s then F ((t + 1 : Nat) : Int) ++ allGo F n s t else []
def allL : Nat → Int → Int → List (List Int)
 | 0, s, _ => if s = 0 then [[]] else []
 | n + 1, s, m => allGo (fun f => (allL n (s - f) f).map (f :: ·)) ((n + 1 : Nat) : Int) s (min s m).toNat
theorem allL_len : ∀ (n : Nat) (s m : Int) (x : List Int), x ∈ allL n s m → x.length = n
 | 0, s, m, x, h => by
  unfold allL at h
  split at h
  · simp at h
    subst h
    rfl
  · simp at h
 | n + 1, s, m, x, h => by
  have key : ∀ (t : Nat), x ∈ allGo (fun f => (allL n (s - f) f).map (f :: ·)) ((n + 1 : Nat) : Int) s t → x.length = n + 1 := by
   intro t
   induction t with
   | zero =>
    intro h
    unfold allGo at h
    split at h
    · obtain ⟨y, hy, rfl⟩ := List.mem_map.1 h
      rw [List.length_cons, allL_len n _ _ y hy]
    · simp at h
   | succ t ih =>
    intro h
    unfold allGo at h
    split at h
    · rcases List.mem_append.1 h with h | h
      · obtain ⟨y, hy, rfl⟩ := List.mem_map.1 h
        rw [List.length_cons, allL_len n _ _ y hy]
      · exact ih h
    · simp at h
  unfold allL at h
  exact key _ h
theorem allL_count : ∀ (n : Nat) (s m : Int), s ≤ 30 → 0 ≤ s → (allL n s m).length ≤ 31 ^ n
 | 0, s, m, _, _ => by
  unfold allL
  split <;> simp
 | n + 1, s, m, hs, h0 => by
  have key : ∀ (t : Nat), (t : Int) ≤ s → (allGo (fun f => (allL n (s - f) f).map (f :: ·)) ((n + 1 : Nat) : Int) s t).length ≤ (t + 1) * 31 ^ n := by
   intro t
   induction t with
   | zero =>
    intro ht
    unfold allGo
    split
    · rw [List.length_map]
      have := allL_count n (s - 0) 0 (by omega) (by omega)
      omega
    · simp
   | succ t ih =>
    intro ht
    unfold allGo
    split
    · rw [List.length_append, List.length_map, Nat.succ_mul]
      have := ih (by omega)
      have := allL_count n (s - ((t + 1 : Nat) : Int)) ((t + 1 : Nat) : Int) (by omega) (by omega)
      omega
    · simp
  unfold allL
  have h1 := key (min s m).toNat (by omega)
  have h2 : ((min s m).toNat + 1) * 31 ^ n ≤ 31 * 31 ^ n := Nat.mul_le_mul_right _ (by omega)
  rw [Nat.pow_succ]
  omega
theorem pow31 {n : Nat} (h : n ≤ 8) : 31 ^ n ≤ 31 ^ 8 := Nat.pow_le_pow_right (by decide) h
theorem allL_bd {n : Nat} (hn : n ≤ 8) {s m : Int} (hs : s ≤ 30) (h0 : 0 ≤ s) : (allL n s m).length ≤ 852891037441 := by
 have h1 := allL_count n s m hs h0
 have h2 := pow31 hn
 have h3 : 31 ^ 8 = 852891037441 := by decide
 omega
theorem rdL {xs : List (List Int)} {i : Nat} (h : i < xs.length) : rd_L1 xs (i : Int) = xs[i] := by
 unfold rd_L1
 rw [Int.toNat_natCast, List.getD_eq_getElem?_getD, List.getElem?_eq_getElem h]
 rfl
theorem specAll_l1 (n : Nat) (s f : Int) (rs : List (List Int)) (hr : ∀ x ∈ rs, x.length ≤ 8) (hrl : rs.length ≤ 1000000000000) (r : List (List Int)) : ∀ (d i : Nat) (acc : List (List Int)), i + d = rs.length → acc.length + d ≤ 2000000000000 → Ev (fun k => spec_liAll.l0 k (n : Int) s (acc ++ (rs.drop i).map (f :: ·)) (wrap64 (f - 1))) r → Ev (fun k => spec_liAll.l1 k (n : Int) s acc f rs (rs.length : Int) (i : Int)) r
 | 0, i, acc, h, hb, hR => by
  refine Ev.succ ?_
  simp only [spec_liAll.l1, if_neg (show ¬ (i : Int) < (rs.length : Int) by omega)]
  rw [List.drop_eq_nil_of_le (by omega), List.map_nil, List.append_nil] at hR
  exact hR
 | d + 1, i, acc, h, hb, hR => by
  have hi : i < rs.length := by omega
  have := hr _ (List.getElem_mem hi)
  refine Ev.succ ?_
  simp only [spec_liAll.l1, if_pos (show (i : Int) < (rs.length : Int) by omega), if_pos (show (0 : Int) ≤ (i : Int) by omega), Option.bind_some, rdL hi, if_pos (show ([f] : List Int).length + (rs[i]).length < 17592186044416 by rw [List.length_singleton]; omega), if_pos (show acc.length < 5864062014805 by omega), wsucc hi (by omega)]
  refine specAll_l1 n s f rs hr hrl r d (i + 1) _ (by omega) (by rw [List.length_append, List.length_singleton]; omega) ?_
  rw [List.drop_eq_getElem_cons hi, List.map_cons] at hR
  rw [List.append_assoc]
  exact hR
theorem specAll_ev : ∀ (n : Nat), n ≤ 8 → ∀ (s m : Int), s ≤ 30 → 0 ≤ s → 0 ≤ m → Ev (fun k => spec_liAll.f k (n : Int) s m) (allL n s m)
 | 0, _, s, m, hs, h0, hm => by
  refine Ev.succ ?_
  simp only [spec_liAll.f, if_pos (show ((0 : Nat) : Int) = 0 from rfl), allL]
  exact Ev.ite (fun _ => Ev.now _) (fun _ => Ev.now _)
 | n + 1, hn, s, m, hs, h0, hm => by
  have key : ∀ (t : Nat), (t : Int) ≤ 30 → (t : Int) ≤ s → ∀ acc : List (List Int), acc.length + (t + 1) * 31 ^ n ≤ 900000000000 → Ev (fun k => spec_liAll.l0 k ((n + 1 : Nat) : Int) s acc (t : Int)) (acc ++ allGo (fun f => (allL n (s - f) f).map (f :: ·)) ((n + 1 : Nat) : Int) s t) := by
   have h31 : 31 ^ n ≤ 852891037441 := by
    have h2 := pow31 (show n ≤ 8 by omega)
    have h3 : 31 ^ 8 = 852891037441 := by decide
    omega
   have step : ∀ (t : Nat), (t : Int) ≤ 30 → (t : Int) ≤ s → ∀ acc r, acc.length + (t + 1) * 31 ^ n ≤ 900000000000 → (t : Int) * ((n + 1 : Nat) : Int) ≥ s → Ev (fun k => spec_liAll.l0 k ((n + 1 : Nat) : Int) s (acc ++ (allL n (s - t) t).map ((t : Int) :: ·)) ((t : Int) - 1)) r → Ev (fun k => spec_liAll.l0 k ((n + 1 : Nat) : Int) s acc (t : Int)) r := by
    intro t ht hts acc r hb hc hR
    have hw : wrap64 ((t : Int) * ((n + 1 : Nat) : Int)) = (t : Int) * ((n + 1 : Nat) : Int) := by
     have h1 : (t : Int) * ((n + 1 : Nat) : Int) ≤ 30 * 8 := Int.mul_le_mul ht (by omega) (by omega) (by omega)
     have h2 : 0 ≤ (t : Int) * ((n + 1 : Nat) : Int) := Int.mul_nonneg (by omega) (by omega)
     exact w64 (by omega) (by omega)
    have hcnt := allL_count n (s - t) t (by omega) (by omega)
    rw [Nat.add_mul] at hb
    refine Ev.succ ?_
    simp only [spec_liAll.l0, hw, if_pos hc, decide_eq_true (show (t : Int) ≥ 0 by omega)]
    refine Ev.succ ?_
    simp only [spec_liAll.j1, if_true, w64 (x := ((n + 1 : Nat) : Int) - 1) (by omega) (by omega), w64 (x := s - (t : Int)) (by omega) (by omega)]
    rw [show ((n + 1 : Nat) : Int) - 1 = (n : Int) by omega]
    refine Ev.bind (specAll_ev n (by omega) (s - t) t (by omega) (by omega) (by omega)) ?_
    have := specAll_l1 (n + 1) s t (allL n (s - t) t) (fun x hx => by have := allL_len n _ _ x hx; omega) (by omega) r (allL n (s - t) t).length 0 acc (by omega) (by omega)
    rw [List.drop_zero, w64 (x := (t : Int) - 1) (by omega) (by omega)] at this
    exact this hR
   have stop : ∀ (t : Int) acc, 0 ≤ t → t ≤ 30 → ¬ t * ((n + 1 : Nat) : Int) ≥ s → Ev (fun k => spec_liAll.l0 k ((n + 1 : Nat) : Int) s acc t) acc := by
    intro t acc h1 h2 hc
    have hw : wrap64 (t * ((n + 1 : Nat) : Int)) = t * ((n + 1 : Nat) : Int) := by
     have h3 : t * ((n + 1 : Nat) : Int) ≤ 30 * 8 := Int.mul_le_mul h2 (by omega) (by omega) (by omega)
     have h4 : 0 ≤ t * ((n + 1 : Nat) : Int) := Int.mul_nonneg h1 (by omega)
     exact w64 (by omega) (by omega)
    refine Ev.succ ?_
    simp only [spec_liAll.l0, hw, if_neg hc]
    refine Ev.succ ?_
    simp only [spec_liAll.j1, Bool.false_eq_true, if_false]
    exact Ev.now _
   have low : ∀ acc, Ev (fun k => spec_liAll.l0 k ((n + 1 : Nat) : Int) s acc (-1)) acc := by
    intro acc
    have hw : wrap64 (-1 * ((n + 1 : Nat) : Int)) = -1 * ((n + 1 : Nat) : Int) := w64 (by omega) (by omega)
    refine Ev.succ ?_
    simp only [spec_liAll.l0, hw, if_neg (show ¬ -1 * ((n + 1 : Nat) : Int) ≥ s by omega)]
    refine Ev.succ ?_
    simp only [spec_liAll.j1, Bool.false_eq_true, if_false]
    exact Ev.now _
   intro t
   induction t with
   | zero =>
    intro h1 h2 acc hb
    unfold allGo
    by_cases hc : 0 * ((n + 1 : Nat) : Int) ≥ s
    · rw [if_pos hc]
      exact step 0 h1 h2 acc _ hb hc (low _)
    · rw [if_neg hc, List.append_nil]
      exact stop 0 acc (by omega) (by omega) hc
   | succ t ih =>
    intro h1 h2 acc hb
    unfold allGo
    by_cases hc : ((t + 1 : Nat) : Int) * ((n + 1 : Nat) : Int) ≥ s
    · rw [if_pos hc, ← List.append_assoc]
      refine step (t + 1) h1 h2 acc _ hb hc ?_
      rw [show ((t + 1 : Nat) : Int) - 1 = (t : Int) by omega]
      have hcnt := allL_count n (s - ((t + 1 : Nat) : Int)) ((t + 1 : Nat) : Int) (by omega) (by omega)
      refine ih (by omega) (by omega) _ ?_
      rw [List.length_append, List.length_map]
      have e : (t + 1 + 1) * 31 ^ n = (t + 1) * 31 ^ n + 31 ^ n := by rw [Nat.add_mul, Nat.one_mul]
      omega
    · rw [if_neg hc, List.append_nil]
      exact stop _ acc (by omega) h1 hc
  refine Ev.succ ?_
  simp only [spec_liAll.f, if_neg (show ¬ ((n + 1 : Nat) : Int) = 0 by omega), l1Least_eq, Option.bind_some, allL]
  have hb : ((min s m).toNat + 1) * 31 ^ n ≤ 31 * 31 ^ n := Nat.mul_le_mul_right _ (by omega)
  have h2 := pow31 (show n + 1 ≤ 8 from hn)
  rw [Nat.pow_succ] at h2
  have h3 : 31 ^ 8 = 852891037441 := by decide
  have := key (min s m).toNat (by omega) (by omega) [] (by rw [List.length_nil]; omega)
  rw [List.nil_append, show (((min s m).toNat : Nat) : Int) = min s m by omega] at this
  exact this
end Go.Proofs.YtefbphpgaeffaaaDoor.A

namespace Go.Proofs.YtefbphpgaeffaaaDoor.A
open Go.RowKit Go.Proofs.YtefbphpgaeffaaaDoorW.PrintWords Go.Proofs.YtefbphpgaeffaaaDoorW.PrintLast Go.Proofs.YtefbphpgaeffaaaDoorW.PrintMore
set_option linter.unusedVariables false
set_option linter.unusedSimpArgs false
/-! which lists allL holds, and in which order -/
theorem allGo_mem {F : Int → List (List Int)} {n s : Int} {x : List Int} (hn : 0 ≤ n) : ∀ t : Nat, x ∈ allGo F n s t ↔ ∃ f : Nat, f ≤ t ∧ (f : Int) * n ≥ s ∧ x ∈ F (f : Int)
 | 0 => by
  unfold allGo
  constructor
  · intro h
    split at h
    · next hc => exact ⟨0, Nat.le_refl _, by simpa using hc, by simpa using h⟩
    · simp at h
  · rintro ⟨f, hf, hc, hx⟩
    obtain rfl : f = 0 := by omega
    rw [if_pos (by simpa using hc)]
    simpa using hx
 | t + 1 => by
  have ih := allGo_mem (F := F) (s := s) (x := x) hn t
  unfold allGo
  constructor
  · intro h
    split at h
    · next hc =>
      rcases List.mem_append.1 h with h | h
      · exact ⟨t + 1, Nat.le_refl _, hc, h⟩
      · obtain ⟨f, h1, h2, h3⟩ := ih.1 h
        exact ⟨f, by omega, h2, h3⟩
    · simp at h
  · rintro ⟨f, hf, hc, hx⟩
    have hm : (f : Int) * n ≤ ((t + 1 : Nat) : Int) * n := Int.mul_le_mul_of_nonneg_right (by omega) hn
    rw [if_pos (by omega)]
    by_cases e : f = t + 1
    · subst e
      exact List.mem_append.2 (.inl hx)
    · exact List.mem_append.2 (.inr (ih.2 ⟨f, by omega, hc, hx⟩))
theorem sum_le_of {f : Int} : ∀ y : List Int, (∀ z ∈ y, 0 ≤ z ∧ z ≤ f) → 0 ≤ y.sum ∧ y.sum ≤ f * (y.length : Int)
 | [], _ => by simp
 | z :: y, h => by
  have ih := sum_le_of y (fun w hw => h w (List.mem_cons_of_mem _ hw))
  have := h z List.mem_cons_self
  rw [List.sum_cons, List.length_cons, Int.natCast_succ, Int.mul_add]
  omega
theorem allL_mem : ∀ (n : Nat) (s m : Int) (x : List Int), 0 ≤ s → 0 ≤ m → (x ∈ allL n s m ↔ x.length = n ∧ Desc x ∧ (∀ y ∈ x, 0 ≤ y ∧ y ≤ m) ∧ x.sum = s)
 | 0, s, m, x, hs, hm => by
  unfold allL
  constructor
  · intro h
    split at h
    · next hc =>
      have : x = [] := by simpa using h
      subst this
      exact ⟨rfl, List.Pairwise.nil, by simp, by simp [hc]⟩
    · simp at h
  · rintro ⟨h1, _, _, h4⟩
    have : x = [] := List.length_eq_zero_iff.1 h1
    subst this
    rw [if_pos (by simpa using h4.symm)]
    simp
 | n + 1, s, m, x, hs, hm => by
  unfold allL
  rw [allGo_mem (by omega)]
  constructor
  · rintro ⟨f, hf, hc, hx⟩
    obtain ⟨y, hy, rfl⟩ := List.mem_map.1 hx
    obtain ⟨h1, h2, h3, h4⟩ := (allL_mem n (s - f) f y (by omega) (by omega)).1 hy
    refine ⟨by simp [h1], List.pairwise_cons.2 ⟨fun z hz => (h3 z hz).2, h2⟩, fun z hz => ?_, by rw [List.sum_cons, h4]; omega⟩
    rcases List.mem_cons.1 hz with rfl | hz
    · omega
    · have := h3 z hz
      omega
  · rintro ⟨h1, h2, h3, h4⟩
    cases x with
    | nil => simp at h1
    | cons f y =>
     have hf := h3 f List.mem_cons_self
     have hd := List.pairwise_cons.1 h2
     have hy : ∀ z ∈ y, 0 ≤ z ∧ z ≤ f := fun z hz => ⟨(h3 z (List.mem_cons_of_mem _ hz)).1, hd.1 z hz⟩
     have hl : y.length = n := by simpa using h1
     have hb := sum_le_of y hy
     rw [hl] at hb
     rw [List.sum_cons] at h4
     have e : ((f.toNat : Nat) : Int) = f := by omega
     refine ⟨f.toNat, by omega, ?_, List.mem_map.2 ⟨y, ?_, by rw [e]⟩⟩
     · rw [e, Int.natCast_succ, Int.mul_add]
       omega
     · rw [e]
       exact (allL_mem n (s - f) f y (by omega) hf.1).2 ⟨hl, hd.2, hy, by omega⟩
/-! before: the greater one by the first number that differs -/
def lexB : List Int → List Int → Prop
 | x :: a, y :: b => y < x ∨ x = y ∧ lexB a b
 | _, _ => False
theorem lexB_irrefl : ∀ a : List Int, ¬ lexB a a
 | [] => fun h => h
 | x :: a => fun h => by
  rcases h with h | ⟨_, h⟩
  · omega
  · exact lexB_irrefl a h
theorem lexB_trans : ∀ a b c : List Int, lexB a b → lexB b c → lexB a c
 | [], _, _, h, _ => h.elim
 | _ :: _, [], _, h, _ => h.elim
 | _ :: _, _ :: _, [], _, h => h.elim
 | x :: a, y :: b, z :: c, h, k => by
  rcases h with h | ⟨e, h⟩
  · rcases k with k | ⟨e', _⟩
    · exact .inl (by omega)
    · exact .inl (by omega)
  · rcases k with k | ⟨e', k⟩
    · exact .inl (by omega)
    · exact .inr ⟨by omega, lexB_trans a b c h k⟩
theorem allGo_sorted {F : Int → List (List Int)} {n s : Int} (hF : ∀ f, (F f).Pairwise lexB) (hh : ∀ f x, x ∈ F f → ∃ y, x = f :: y) : ∀ t : Nat, (allGo F n s t).Pairwise lexB ∧ ∀ x ∈ allGo F n s t, ∃ (f : Int) (y : List Int), f ≤ (t : Int) ∧ x = f :: y
 | 0 => by
  unfold allGo
  split
  · exact ⟨hF 0, fun x hx => by obtain ⟨y, e⟩ := hh 0 x hx; exact ⟨0, y, by omega, e⟩⟩
  · exact ⟨List.Pairwise.nil, by simp⟩
 | t + 1 => by
  obtain ⟨i1, i2⟩ := allGo_sorted (n := n) (s := s) hF hh t
  unfold allGo
  split
  · refine ⟨List.pairwise_append.2 ⟨hF _, i1, fun x hx y hy => ?_⟩, fun x hx => ?_⟩
    · obtain ⟨u, rfl⟩ := hh _ x hx
      obtain ⟨f, v, hf, rfl⟩ := i2 y hy
      exact .inl (by omega)
    · rcases List.mem_append.1 hx with hx | hx
      · obtain ⟨u, e⟩ := hh _ x hx
        exact ⟨_, u, Int.le_refl _, e⟩
      · obtain ⟨f, v, hf, e⟩ := i2 x hx
        exact ⟨f, v, by omega, e⟩
  · exact ⟨List.Pairwise.nil, by simp⟩
theorem allL_sorted : ∀ (n : Nat) (s m : Int), (allL n s m).Pairwise lexB
 | 0, s, m => by
  unfold allL
  split
  · exact List.pairwise_singleton _ _
  · exact List.Pairwise.nil
 | n + 1, s, m => by
  unfold allL
  refine (allGo_sorted (fun f => List.pairwise_map.2 ((allL_sorted n (s - f) f).imp fun h => .inr ⟨rfl, h⟩)) (fun f x hx => ?_) _).1
  obtain ⟨y, _, rfl⟩ := List.mem_map.1 hx
  exact ⟨y, rfl⟩
/-! the lists that are majorized by one -/
def undL (a : List Int) : List (List Int) := (allL a.length a.sum a.sum).filter fun x => majB x a
theorem gsum0 {a : List Int} (h : goodL a = true) : 0 ≤ a.sum := by
 have hs := good_sm h
 exact (sum_le_of (f := 1000) a hs.2).1
theorem und_mem {a : List Int} (hg : goodL a = true) (x : List Int) : x ∈ undL a ↔ Desc x ∧ (∀ y ∈ x, 0 ≤ y ∧ y ≤ a.sum) ∧ majB x a = true := by
 unfold undL
 rw [List.mem_filter, allL_mem _ _ _ _ (gsum0 hg) (gsum0 hg)]
 constructor
 · rintro ⟨⟨_, h2, h3, _⟩, h5⟩
   exact ⟨h2, h3, h5⟩
 · rintro ⟨h2, h3, h5⟩
   have := (majB_iff x a).1 h5
   exact ⟨⟨this.1, h2, h3, this.2.1⟩, h5⟩
theorem mem_le_sum {f : Int} : ∀ y : List Int, (∀ z ∈ y, 0 ≤ z) → f ∈ y → f ≤ y.sum
 | [], _, h => by simp at h
 | z :: y, h, hf => by
  have hy : 0 ≤ y.sum := by
   clear hf
   have := fun w hw => h w (List.mem_cons_of_mem z hw)
   clear h
   induction y with
   | nil => simp
   | cons w y ih =>
    have h1 := this w List.mem_cons_self
    have h2 := ih (fun v hv => this v (List.mem_cons_of_mem _ hv))
    rw [List.sum_cons]
    omega
  rw [List.sum_cons]
  rcases List.mem_cons.1 hf with rfl | hf
  · omega
  · have := mem_le_sum y (fun w hw => h w (List.mem_cons_of_mem _ hw)) hf
    have := h z List.mem_cons_self
    omega
theorem maj_rank (a : List Int) : majB (descL a) a = true := (majB_dom _ _).2 (by rw [descL_descL]; exact ⟨rfl, rfl, fun _ => Int.le_refl _⟩)
theorem und_rank {a : List Int} (hg : goodL a = true) : descL a ∈ undL a := by
 have hs := good_sm hg
 refine (und_mem hg _).2 ⟨descL_desc a, fun y hy => ?_, maj_rank a⟩
 have hy := descL_mem.1 hy
 exact ⟨(hs.2 y hy).1, mem_le_sum a (fun z hz => (hs.2 z hz).1) hy⟩
theorem good_len {a : List Int} (h : goodL a = true) : 1 ≤ a.length ∧ a.length ≤ 8 := by
 unfold goodL at h
 split at h
 · omega
 · cases h
theorem all_sm {a : List Int} (hg : goodL a = true) (h30 : a.sum ≤ 30) {x : List Int} (hx : x ∈ allL a.length a.sum a.sum) : Sm x := by
 obtain ⟨h1, _, h3, _⟩ := (allL_mem _ _ _ _ (gsum0 hg) (gsum0 hg)).1 hx
 have := good_len hg
 exact ⟨by omega, fun y hy => by have := h3 y hy; omega⟩
theorem und_bd (a : List Int) (hg : goodL a = true) (h30 : a.sum ≤ 30) : (undL a).length ≤ 852891037441 := by
 have h1 := allL_bd (good_len hg).2 (m := a.sum) h30 (gsum0 hg)
 have h2 := List.length_filter_le (fun x => majB x a) (allL a.length a.sum a.sum)
 unfold undL
 omega
theorem und_good {a : List Int} (hg : goodL a = true) (h30 : a.sum ≤ 30) {x : List Int} (hx : x ∈ undL a) : goodL x = true ∧ Sm x ∧ Desc x ∧ x.length = a.length ∧ x.sum = a.sum := by
 obtain ⟨h1, h2, h3⟩ := (und_mem hg x).1 hx
 obtain ⟨e1, e2, _⟩ := (majB_iff x a).1 h3
 have hl := good_len hg
 have hs : Sm x := ⟨by omega, fun y hy => by have := h2 y hy; omega⟩
 refine ⟨?_, hs, h1, e1, e2⟩
 unfold goodL inR
 rw [if_pos (by omega), List.all_eq_true]
 intro y hy
 have := h2 y hy
 simp
 omega
end Go.Proofs.YtefbphpgaeffaaaDoor.A

namespace Go.Proofs.YtefbphpgaeffaaaDoor.A
open Go.RowKit Go.Proofs.YtefbphpgaeffaaaDoorW.PrintWords Go.Proofs.YtefbphpgaeffaaaDoorW.PrintLast Go.Proofs.YtefbphpgaeffaaaDoorW.PrintMore
set_option linter.unusedVariables false
set_option linter.unusedSimpArgs false
end Go.Proofs.YtefbphpgaeffaaaDoor.A

namespace Go.Proofs.YtefbphpgaeffaaaDoor.A
open Go.RowKit Go.Proofs.YtefbphpgaeffaaaDoorW.PrintWords Go.Proofs.YtefbphpgaeffaaaDoorW.PrintLast Go.Proofs.YtefbphpgaeffaaaDoorW.PrintMore
set_option linter.unusedVariables false
set_option linter.unusedSimpArgs false
theorem allL_most (n : Nat) (s m m' : Int) (h1 : s ≤ m) (h2 : s ≤ m') : allL n s m = allL n s m' := by
 cases n with
 | zero => rfl
 | succ n =>
  unfold allL
  rw [show min s m = s by omega, show min s m' = s by omega]
end Go.Proofs.YtefbphpgaeffaaaDoor.A

namespace Go.Proofs.YtefbphpgaeffaaaDoor.A
open Go.RowKit Go.Proofs.YtefbphpgaeffaaaDoorW.PrintWords Go.Proofs.YtefbphpgaeffaaaDoorW.PrintLast Go.Proofs.YtefbphpgaeffaaaDoorW.PrintMore
set_option linter.unusedVariables false
set_option linter.unusedSimpArgs false
/-! LowerCovers: the unit gifts of spec -/
def ugF (p : List Int) (i j : Nat) : Option (List Int) := if rd p (i : Int) ≥ rd p (j : Int) + 2 then some (descL (giveL p (i : Int) (j : Int) 1)) else none
def ugRow (p : List Int) (i j d : Nat) : List (List Int) := (List.range' j d).filterMap (ugF p i)
def ugAll (p : List Int) (i d : Nat) : List (List Int) := (List.range' i d).flatMap fun i => ugRow p i 0 p.length
theorem ugRow_le (p : List Int) (i j d : Nat) : (ugRow p i j d).length ≤ d := by
 have := List.length_filterMap_le (ugF p i) (List.range' j d)
 simpa [ugRow] using this
theorem ugAll_succ (p : List Int) (i d : Nat) : ugAll p i (d + 1) = ugRow p i 0 p.length ++ ugAll p (i + 1) d := by
 unfold ugAll
 rw [List.range'_succ, List.flatMap_cons]
theorem ugRow_succ (p : List Int) (i j d : Nat) : ugRow p i j (d + 1) = (if rd p (i : Int) ≥ rd p (j : Int) + 2 then [descL (giveL p (i : Int) (j : Int) 1)] else []) ++ ugRow p i (j + 1) d := by
 unfold ugRow
 rw [List.range'_succ, List.filterMap_cons]
 unfold ugF
 by_cases c : rd p (i : Int) ≥ rd p (j : Int) + 2
 · simp only [if_pos c]
   rfl
 · simp only [if_neg c]
   rfl
theorem specGifts_row (p : List Int) (hp : Sm p) (i : Nat) (hi : i < p.length) (r : List (List Int)) : ∀ (d j : Nat) (acc : List (List Int)), j + d = p.length → acc.length + d ≤ 1000000000 → Ev (fun k => spec_liGifts.l0 k p (acc ++ ugRow p i j d) (p.length : Int) (wrap64 ((i : Int) + 1))) r → Ev (fun k => spec_liGifts.l1 k p acc (i : Int) (p.length : Int) (i : Int) (p.length : Int) (j : Int)) r
 | 0, j, acc, h, hb, hr => by
  refine Ev.succ ?_
  simp only [spec_liGifts.l1, if_neg (show ¬ (j : Int) < (p.length : Int) by omega)]
  simpa [ugRow] using hr
 | d + 1, j, acc, h, hb, hr => by
  have hj : j < p.length := by omega
  have hlen := hp.1
  have bi := hp.2 _ (List.getElem_mem hi)
  have bj := hp.2 _ (List.getElem_mem hj)
  rw [← rdn hi] at bi
  rw [← rdn hj] at bj
  refine Ev.succ ?_
  simp only [spec_liGifts.l1, if_pos (show (j : Int) < (p.length : Int) by omega), if_pos (Int.natCast_nonneg i), if_pos (show (i : Int) < (p.length : Int) by omega), if_pos (Int.natCast_nonneg j), wsucc hj (by omega), w64 (x := rd p (j : Int) + 2) (by omega) (by omega)]
  rw [ugRow_succ] at hr
  by_cases c : rd p (i : Int) ≥ rd p (j : Int) + 2
  · rw [if_pos c] at hr
    have hij : i ≠ j := fun e => by rw [e] at c; omega
    have hset : rd (p.set i (rd p (i : Int) - 1)) (j : Int) = rd p (j : Int) := by
     rw [rdn (by rw [List.length_set]; exact hj), List.getElem_set_ne hij, rdn hj]
    have hg : (p.set i (rd p (i : Int) - 1)).set j (rd p (j : Int) + 1) = giveL p (i : Int) (j : Int) 1 := rfl
    simp only [if_pos c, l1Own_eq p (by omega), Option.bind_some, if_pos (show (i : Int) < (p.length : Int) by omega), if_pos (show (j : Int) < (p.length : Int) by omega), Int.toNat_natCast, w64 (x := rd p (i : Int) - 1) (by omega) (by omega), hset, w64 (x := rd p (j : Int) + 1) (by omega) (by omega), hg]
    refine Ev.bind (liRank_ev _ (by rw [giveL_length]; omega)) ?_
    simp only [if_pos (show acc.length < 5864062014805 by omega)]
    exact specGifts_row p hp i hi r d (j + 1) _ (by omega) (by rw [List.length_append, List.length_singleton]; omega) (by rw [List.append_assoc]; exact hr)
  · rw [if_neg c, List.nil_append] at hr
    simp only [if_neg c]
    exact specGifts_row p hp i hi r d (j + 1) acc (by omega) (by omega) hr
theorem specGifts_all (p : List Int) (hp : Sm p) : ∀ (d i : Nat) (acc : List (List Int)), i + d = p.length → acc.length + d * p.length ≤ 100000000 → Ev (fun k => spec_liGifts.l0 k p acc (p.length : Int) (i : Int)) (acc ++ ugAll p i d)
 | 0, i, acc, h, hb => by
  refine Ev.succ ?_
  simp only [spec_liGifts.l0, if_neg (show ¬ (i : Int) < (p.length : Int) by omega)]
  simp only [ugAll, List.range'_zero, List.flatMap_nil, List.append_nil]
  exact Ev.now _
 | d + 1, i, acc, h, hb => by
  have hlen := hp.1
  rw [Nat.succ_mul] at hb
  refine Ev.succ ?_
  simp only [spec_liGifts.l0, if_pos (show (i : Int) < (p.length : Int) by omega)]
  refine specGifts_row p hp i (by omega) _ p.length 0 acc (by omega) (by omega) ?_
  rw [wsucc (show i < p.length by omega) (by omega), ugAll_succ, ← List.append_assoc]
  have hr := ugRow_le p i 0 p.length
  exact specGifts_all p hp d (i + 1) _ (by omega) (by rw [List.length_append]; omega)
theorem specGifts_ev (p : List Int) (hp : Sm p) : Ev (fun k => spec_liGifts.f k p) (ugAll p 0 p.length) := by
 unfold spec_liGifts.f
 have h1 := hp.1
 have h2 : p.length * p.length ≤ 1000 * 1000 := Nat.mul_le_mul h1 h1
 have := specGifts_all p hp p.length 0 [] (by omega) (by simp; omega)
 rw [List.nil_append] at this
 exact this
end Go.Proofs.YtefbphpgaeffaaaDoor.A

namespace Go.Proofs.YtefbphpgaeffaaaDoor.A
open Go.RowKit Go.Proofs.YtefbphpgaeffaaaDoorW.PrintWords Go.Proofs.YtefbphpgaeffaaaDoorW.PrintLast Go.Proofs.YtefbphpgaeffaaaDoorW.PrintMore
set_option linter.unusedVariables false
set_option linter.unusedSimpArgs false
theorem dom_lex : ∀ p x : List Int, Dom p x → x = p ∨ lexB p x
 | [], [], _ => .inl rfl
 | [], _ :: _, h => by simp [Dom] at h
 | _ :: _, [], h => by simp [Dom] at h
 | y :: p, z :: x, h => by
  obtain ⟨h1, h2, h3⟩ := h
  have k := h3 1
  have hz : z ≤ y := by simpa [pre] using k
  by_cases e : z = y
  · subst e
    have hd : Dom p x := ⟨by simpa using h1, by simpa using h2, fun m => by
     have := h3 (m + 1)
     simp [pre] at this ⊢
     omega⟩
    rcases dom_lex p x hd with e | e
    · exact .inl (by rw [e])
    · exact .inr (.inr ⟨rfl, e⟩)
  · exact .inr (.inl (by omega))
end Go.Proofs.YtefbphpgaeffaaaDoor.A

namespace Go.Proofs.YtefbphpgaeffaaaDoor.A
open Go.RowKit Go.Proofs.YtefbphpgaeffaaaDoorW.PrintWords Go.Proofs.YtefbphpgaeffaaaDoorW.PrintLast Go.Proofs.YtefbphpgaeffaaaDoorW.PrintMore
set_option linter.unusedVariables false
set_option linter.unusedSimpArgs false
end Go.Proofs.YtefbphpgaeffaaaDoor.A

namespace Go.Proofs.YtefbphpgaeffaaaDoor.A
open Go.RowKit Go.Proofs.YtefbphpgaeffaaaDoorW.PrintWords Go.Proofs.YtefbphpgaeffaaaDoorW.PrintLast Go.Proofs.YtefbphpgaeffaaaDoorW.PrintMore
set_option linter.unusedVariables false
set_option linter.unusedSimpArgs false
end Go.Proofs.YtefbphpgaeffaaaDoor.A

namespace Go.Proofs.YtefbphpgaeffaaaDoor.A
open Go.RowKit Go.Proofs.YtefbphpgaeffaaaDoorW.PrintWords Go.Proofs.YtefbphpgaeffaaaDoorW.PrintLast Go.Proofs.YtefbphpgaeffaaaDoorW.PrintMore
set_option linter.unusedVariables false
set_option linter.unusedSimpArgs false
end Go.Proofs.YtefbphpgaeffaaaDoor.A

namespace Go.Proofs.YtefbphpgaeffaaaDoor.A
open Go.RowKit Go.Proofs.YtefbphpgaeffaaaDoorW.PrintWords Go.Proofs.YtefbphpgaeffaaaDoorW.PrintLast Go.Proofs.YtefbphpgaeffaaaDoorW.PrintMore
set_option linter.unusedVariables false
set_option linter.unusedSimpArgs false
end Go.Proofs.YtefbphpgaeffaaaDoor.A

namespace Go.Proofs.YtefbphpgaeffaaaDoor.A
open Go.RowKit Go.Proofs.YtefbphpgaeffaaaDoorW.PrintWords Go.Proofs.YtefbphpgaeffaaaDoorW.PrintLast Go.Proofs.YtefbphpgaeffaaaDoorW.PrintMore
set_option linter.unusedVariables false
set_option linter.unusedSimpArgs false
end Go.Proofs.YtefbphpgaeffaaaDoor.A

namespace Go.Proofs.YtefbphpgaeffaaaDoor.A
open Go.RowKit Go.Proofs.YtefbphpgaeffaaaDoorW.PrintWords Go.Proofs.YtefbphpgaeffaaaDoorW.PrintLast Go.Proofs.YtefbphpgaeffaaaDoorW.PrintMore
set_option linter.unusedVariables false
set_option linter.unusedSimpArgs false
def sqF (s x : Int) : Int := wrap64 (s + wrap64 (x * x))
end Go.Proofs.YtefbphpgaeffaaaDoor.A

namespace Go.Proofs.YtefbphpgaeffaaaDoor.A
open Go.RowKit Go.Proofs.YtefbphpgaeffaaaDoorW.PrintWords Go.Proofs.YtefbphpgaeffaaaDoorW.PrintLast Go.Proofs.YtefbphpgaeffaaaDoorW.PrintMore
set_option linter.unusedVariables false
set_option linter.unusedSimpArgs false
def sqS (l : List Int) : Int := (l.map fun x => x * x).sum
theorem sq_bd (x : Int) (h0 : 0 ≤ x) (h1 : x ≤ 60) : 0 ≤ x * x ∧ x * x ≤ 3600 := by
 refine ⟨Int.mul_nonneg h0 h0, ?_⟩
 have := Int.mul_le_mul h1 h1 h0 (show (0 : Int) ≤ 60 by omega)
 omega
theorem fold_sq : ∀ (l : List Int) (s : Int), (∀ x ∈ l, 0 ≤ x ∧ x ≤ 60) → 0 ≤ s → s + 3600 * l.length ≤ 1000000000000 → l.foldl sqF s = s + sqS l ∧ 0 ≤ sqS l ∧ sqS l ≤ 3600 * l.length
 | [], s, _, _, _ => by simp [sqS]
 | x :: l, s, hx, h0, hs => by
  have hb := sq_bd x (hx x List.mem_cons_self).1 (hx x List.mem_cons_self).2
  rw [List.length_cons] at hs
  have e : sqF s x = s + x * x := by
   unfold sqF
   rw [w64 (x := x * x) (by omega) (by omega), w64 (by omega) (by omega)]
  obtain ⟨h1, h2, h3⟩ := fold_sq l (s + x * x) (fun y hy => hx y (List.mem_cons_of_mem _ hy)) (by omega) (by omega)
  have e2 : sqS (x :: l) = x * x + sqS l := by simp [sqS]
  rw [List.foldl_cons, e, h1, e2, List.length_cons]
  omega
theorem sum_map_set (g : Int → Int) : ∀ (l : List Int) (i : Nat) (h : i < l.length) (v : Int), ((l.set i v).map g).sum = (l.map g).sum - g l[i] + g v
 | x :: l, 0, h, v => by simp; omega
 | x :: l, i + 1, h, v => by
  have := sum_map_set g l i (by simpa using h) v
  simp only [List.set_cons_succ, List.map_cons, List.sum_cons, List.getElem_cons_succ]
  omega
theorem sum_map_set_rd (g : Int → Int) (l : List Int) (i : Int) (h0 : 0 ≤ i) (h1 : i < l.length) (v : Int) : ((l.set i.toNat v).map g).sum = (l.map g).sum - g (rd l i) + g v := by
 have hi : i.toNat < l.length := by omega
 have e : rd l i = l[i.toNat] := rdi h0 h1
 rw [sum_map_set g l i.toNat hi v, e]
theorem kindB_iff (l : List Int) (f t a : Int) : kindB l f t a = true ↔ isG l f t a = true ∧ a ≤ 60 ∧ rd l t + a ≤ rd l f - a := by
 unfold kindB
 simp only [Bool.and_eq_true, decide_eq_true_eq]
theorem fall_ring (x y a : Int) : x * x + y * y - ((x - a) * (x - a) + (y + a) * (y + a)) = 2 * a * (x - y - a) := by grind
theorem sqS_give (l : List Int) (f t a : Int) (h1 : 0 ≤ f ∧ f < l.length) (h2 : 0 ≤ t ∧ t < l.length) (h3 : f ≠ t) : sqS l - sqS (giveL l f t a) = 2 * a * (rd l f - rd l t - a) := by
 unfold sqS giveL
 rw [sum_map_set_rd _ _ t h2.1 (by rw [List.length_set]; exact h2.2), sum_map_set_rd _ _ f h1.1 h1.2, rd_set_ne _ h1.1 h2.1 h3]
 have := fall_ring (rd l f) (rd l t) a
 omega
theorem kind_give (l : List Int) (f t a : Int) (hg : goodL l = true) (hk : kindB l f t a = true) : goodL (giveL l f t a) = true := by
 obtain ⟨hG, c1, c2⟩ := (kindB_iff l f t a).1 hk
 obtain ⟨h1, h2, h3, h4⟩ := (isG_iff l f t a).1 hG
 have b1 := rd_good hg h1.1 h1.2
 have b2 := rd_good hg h2.1 h2.2
 exact (give_good l f t _ _ hg h1 h2 h3).2 (by omega)
end Go.Proofs.YtefbphpgaeffaaaDoor.A

namespace Go.Proofs.YtefbphpgaeffaaaDoor.A
open Go.RowKit Go.Proofs.YtefbphpgaeffaaaDoorW.PrintWords Go.Proofs.YtefbphpgaeffaaaDoorW.PrintLast Go.Proofs.YtefbphpgaeffaaaDoorW.PrintMore
set_option linter.unusedVariables false
set_option linter.unusedSimpArgs false
/-! a kind gift leaves a more even list; lists that are mixed or stacked -/
theorem ex_set (l : List Int) (i : Int) (h0 : 0 ≤ i) (h1 : i < l.length) (v t : Int) : ex (l.set i.toNat v) t = ex l t - max (rd l i - t) 0 + max (v - t) 0 := sum_map_set_rd (fun x => max (x - t) 0) l i h0 h1 v
theorem ex_give (l : List Int) (f t a : Int) (h1 : 0 ≤ f ∧ f < l.length) (h2 : 0 ≤ t ∧ t < l.length) (h3 : f ≠ t) (s : Int) : ex (giveL l f t a) s = ex l s - max (rd l f - s) 0 + max (rd l f - a - s) 0 - max (rd l t - s) 0 + max (rd l t + a - s) 0 := by
 unfold giveL
 rw [ex_set _ t h2.1 (by rw [List.length_set]; exact h2.2), ex_set _ f h1.1 h1.2, rd_set_ne _ h1.1 h2.1 h3]
theorem sum_set (l : List Int) (i : Int) (h0 : 0 ≤ i) (h1 : i < l.length) (v : Int) : (l.set i.toNat v).sum = l.sum - rd l i + v := by
 have h := sum_map_set_rd (fun x => x) l i h0 h1 v
 simpa using h
theorem give_sum (l : List Int) (f t a : Int) (h1 : 0 ≤ f ∧ f < l.length) (h2 : 0 ≤ t ∧ t < l.length) (h3 : f ≠ t) : (giveL l f t a).sum = l.sum := by
 unfold giveL
 rw [sum_set _ t h2.1 (by rw [List.length_set]; exact h2.2), sum_set _ f h1.1 h1.2, rd_set_ne _ h1.1 h2.1 h3]
 omega
theorem kind_maj {l : List Int} {f t a : Int} (hk : kindB l f t a = true) : majB (giveL l f t a) l = true := by
 obtain ⟨hG, c1, c2⟩ := (kindB_iff l f t a).1 hk
 obtain ⟨h1, h2, h3, h4⟩ := (isG_iff l f t a).1 hG
 refine (maj_ex _ _).2 ⟨giveL_length l f t a, give_sum l f t a h1 h2 h3, fun s => ?_⟩
 rw [ex_give l f t a h1 h2 h3]
 omega
theorem sqS_perm {a b : List Int} (h : a.Perm b) : sqS a = sqS b := perm_sum (h.map _)
theorem kind_fall {l : List Int} {f t a : Int} (hk : kindB l f t a = true) : 0 < 2 * a * (rd l f - rd l t - a) := by
 obtain ⟨hG, c1, c2⟩ := (kindB_iff l f t a).1 hk
 obtain ⟨h1, h2, h3, h4⟩ := (isG_iff l f t a).1 hG
 exact Int.mul_pos (by omega) (by omega)
end Go.Proofs.YtefbphpgaeffaaaDoor.A

-- made by a program of this repo (wip/pp.py) through the kit's printer
namespace Go.Proofs.YtefbphpgaeffaaaDoor.A
open Go.RowKit Go.Proofs.YtefbphpgaeffaaaDoorW.PrintWords Go.Proofs.YtefbphpgaeffaaaDoorW.PrintLast Go.Proofs.YtefbphpgaeffaaaDoorW.PrintMore
attribute [local go_sem] max2_int min2_int max_two min_two max_three min_three max_four min_four
set_option linter.unusedVariables false
set_option linter.unusedSimpArgs false

/-! ### impl_isBetween: function 11 -/
def impl_isBetween.f (k : Nat) (l0 : List Int) (l1 : List Int) : Option (Bool) := (impl_areLists.f k l0 l1).bind fun t261 => (if t261 = true then ((impl_isMajorized.f k l0 l1).bind fun t262 => (some t262)) else (some false))
set_option maxHeartbeats 8000000 in
set_option maxRecDepth 100000 in
theorem impl_isBetween.calls (k : Nat) (A0 : Option Addr) (c0 : Nat) (l0 : List Int) (A1 : Option Addr) (c1 : Nat) (l1 : List Int) (r : Bool) (w : World) (hr0 : Kd.C (Kd.int .i64) w A0 l0.length l0) (hc0 : l0.length ≤ c0) (hr1 : Kd.C (Kd.int .i64) w A1 l1.length l1) (hc1 : l1.length ≤ c1) (h : impl_isBetween.f k l0 l1 = some r) :
 Calls Tryd.prog 11 #[.slice A0 l0.length c0, .slice A1 l1.length c1] w fun e w' => e = .returned (.bool r) ∧ Below w.heap.size w w' := by
 have HR0 := Aside0.mk hr0
 have HC0 := Aside0.mk hc0
 clear hr0 hc0
 have HR1 := Aside0.mk hr1
 have HC1 := Aside0.mk hc1
 clear hr1 hc1
 have HB := Aside0.mk (Below.refl w.heap.size w)
 have H : ((impl_areLists.f k l0 l1).bind fun t261 => (if t261 = true then ((impl_isMajorized.f k l0 l1).bind fun t262 => (some t262)) else (some false))) = some r := h
 clear h
 replace H := Option.bind_eq_some_iff.mp H
 obtain ⟨t261, A30, H⟩ := H
 replace H : (if t261 = true then ((impl_isMajorized.f k l0 l1).bind fun t262 => (some t262)) else (some false)) = some r := H
 have A3 := Aside0.mk A30
 clear A30
 by_cases c4 : t261 = true
 · subst c4
   have H1 : ((impl_isMajorized.f k l0 l1).bind fun t262 => (some t262)) = some r := by rw [if_pos rfl] at H; exact H
   clear H
   have H := H1
   clear H1
   replace H := Option.bind_eq_some_iff.mp H
   obtain ⟨t262, A50, H⟩ := H
   replace H : (some t262) = some r := H
   have A5 := Aside0.mk A50
   clear A50
   obtain rfl := Option.some.inj H
   go_enter Tryd.func11, Tryd.ntmps11
   go_wp2_with (first | ((with_reducible refine gate_callee (f := 23) rfl ?_); refine goesL_ (some 7) rfl rfl Tryd.func23 (by kernel_rfl) rfl #[.slice A0 l0.length c0, .slice A1 l1.length c1] rfl (by (try simp only [List.map_toArray, List.map_cons, List.map_nil]); first | done | rfl | (simp only [List.length_drop, List.length_take]; rfl)) ?_; (with_reducible refine (impl_areLists.calls k _ _ l0 _ _ l1 true _ ?side1 ?side2 ?side3 ?side4 A3.out).mono ?_); (case side1 => repeat (first | exact HR0.out | (with_reducible refine Kd.C_alloc ?_ _) | (with_reducible refine Kd.C_drewN ?_ _) | (with_reducible refine Kd.C_drew ?_))); (case side2 => exact HC0.out); (case side3 => repeat (first | exact HR1.out | (with_reducible refine Kd.C_alloc ?_ _) | (with_reducible refine Kd.C_drewN ?_ _) | (with_reducible refine Kd.C_drew ?_))); (case side4 => exact HC1.out); rintro e w' ⟨rfl, ⟨nd, rfl⟩⟩; refine ⟨_, rfl, ?_⟩) | (go_at_call 24; (with_reducible refine (impl_isMajorized.calls k _ _ l0 _ _ l1 t262 _ ?side1 ?side2 ?side3 ?side4 A5.out).mono ?_); (case side1 => repeat (first | exact HR0.out | (with_reducible refine Kd.C_alloc ?_ _) | (with_reducible refine Kd.C_drewN ?_ _) | (with_reducible refine Kd.C_drew ?_))); (case side2 => exact HC0.out); (case side3 => repeat (first | exact HR1.out | (with_reducible refine Kd.C_alloc ?_ _) | (with_reducible refine Kd.C_drewN ?_ _) | (with_reducible refine Kd.C_drew ?_))); (case side4 => exact HC1.out); rintro e w6 ⟨rfl, hb⟩; have n0_ := Aside0.mk (below_step (by repeat (first | (with_reducible first | exact HB.out | apply below_alloc | apply pw_below_drewN | apply below_drew1) | exact HB.out)) hb); clear HB; have HB := n0_; clear n0_; (try clear hb); (try clear hb2); (try clear hk); (try clear hi)))
   go_ret
   exact ⟨by first | rfl | (simp [errW_none, errW_some] <;> rfl) | (simp [*, errW_none, errW_some] <;> rfl), by repeat (first | (with_reducible first | exact HB.out | apply below_alloc | apply pw_below_drewN | apply below_drew1) | exact HB.out)⟩
 · replace c4 := Bool.eq_false_iff.mpr c4
   subst c4
   have H1 : (some false) = some r := by rw [if_neg (show ¬ (false = true) by decide)] at H; exact H
   clear H
   have H := H1
   clear H1
   obtain rfl := Option.some.inj H
   go_enter Tryd.func11, Tryd.ntmps11
   go_wp2_with (first | ((with_reducible refine gate_callee (f := 23) rfl ?_); refine goesL_ (some 7) rfl rfl Tryd.func23 (by kernel_rfl) rfl #[.slice A0 l0.length c0, .slice A1 l1.length c1] rfl (by (try simp only [List.map_toArray, List.map_cons, List.map_nil]); first | done | rfl | (simp only [List.length_drop, List.length_take]; rfl)) ?_; (with_reducible refine (impl_areLists.calls k _ _ l0 _ _ l1 false _ ?side1 ?side2 ?side3 ?side4 A3.out).mono ?_); (case side1 => repeat (first | exact HR0.out | (with_reducible refine Kd.C_alloc ?_ _) | (with_reducible refine Kd.C_drewN ?_ _) | (with_reducible refine Kd.C_drew ?_))); (case side2 => exact HC0.out); (case side3 => repeat (first | exact HR1.out | (with_reducible refine Kd.C_alloc ?_ _) | (with_reducible refine Kd.C_drewN ?_ _) | (with_reducible refine Kd.C_drew ?_))); (case side4 => exact HC1.out); rintro e w' ⟨rfl, ⟨nd, rfl⟩⟩; refine ⟨_, rfl, ?_⟩))
   go_ret
   exact ⟨by first | rfl | (simp [errW_none, errW_some] <;> rfl) | (simp [*, errW_none, errW_some] <;> rfl), by repeat (first | (with_reducible first | exact HB.out | apply below_alloc | apply pw_below_drewN | apply below_drew1) | exact HB.out)⟩

end Go.Proofs.YtefbphpgaeffaaaDoor.A

namespace Go.Proofs.YtefbphpgaeffaaaDoor.A
open Go.RowKit Go.Proofs.YtefbphpgaeffaaaDoorW.PrintWords Go.Proofs.YtefbphpgaeffaaaDoorW.PrintLast Go.Proofs.YtefbphpgaeffaaaDoorW.PrintMore
set_option linter.unusedVariables false
set_option linter.unusedSimpArgs false
def betB (a b : List Int) : Bool := if goodL a = true then (if goodL b = true then majB a b else false) else false
theorem isBetween_ev (a b : List Int) (ha : a.length ≤ 1048576) (hb : b.length ≤ 1048576) : Ev (fun k => impl_isBetween.f k a b) (betB a b) := by
 unfold impl_isBetween.f betB
 refine Ev.bind (areLists_ev a b ha hb) ?_
 by_cases ga : goodL a = true
 · by_cases gb : goodL b = true
   · simp only [ga, gb, if_true]
     exact Ev.bind (isMajorized_ev a b (good_sm ga) (good_sm gb)) (Ev.now _)
   · simp only [ga, if_true, if_neg gb]
     exact Ev.now _
 · simp only [if_neg ga, Bool.false_eq_true, if_false]
   exact Ev.now _
theorem giLists_ev (a b : List Int) (ha : a.length ≤ 1048576) (hb : b.length ≤ 1048576) : Ev (fun k => spec_giLists.f k a b) (betB a b) := by
 unfold spec_giLists.f betB
 refine Ev.bind (liGood_ev a (by omega)) (Ev.ite (fun ga => ?_) (fun _ => Ev.now _))
 refine Ev.bind (liGood_ev b (by omega)) (Ev.ite (fun gb => ?_) (fun _ => Ev.now _))
 exact Ev.bind (liBelow_ev a b (good_sm ga) (good_sm gb)) (Ev.now _)
theorem betB_iff (a b : List Int) : betB a b = true ↔ goodL a = true ∧ goodL b = true ∧ majB a b = true := by
 unfold betB
 split
 · split <;> simp_all
 · simp_all
theorem l1Most_eq (a b : Int) : spec_l1Most.f a b = some (max a b) := by
 unfold spec_l1Most.f
 split <;> (congr 1; omega)
end Go.Proofs.YtefbphpgaeffaaaDoor.A

namespace Go.Proofs.YtefbphpgaeffaaaDoor.A
open Go.RowKit Go.Proofs.YtefbphpgaeffaaaDoorW.PrintWords Go.Proofs.YtefbphpgaeffaaaDoorW.PrintLast Go.Proofs.YtefbphpgaeffaaaDoorW.PrintMore
set_option linter.unusedVariables false
set_option linter.unusedSimpArgs false
end Go.Proofs.YtefbphpgaeffaaaDoor.A

namespace Go.Proofs.YtefbphpgaeffaaaDoor.A
open Go.RowKit Go.Proofs.YtefbphpgaeffaaaDoorW.PrintWords Go.Proofs.YtefbphpgaeffaaaDoorW.PrintLast Go.Proofs.YtefbphpgaeffaaaDoorW.PrintMore
set_option linter.unusedVariables false
set_option linter.unusedSimpArgs false
/-! LowerCovers: the covers that spec tells are those of impl -/
theorem und_head {a : List Int} (hg : goodL a = true) : undL a = descL a :: (undL a).drop 1 := by
 have hs : (undL a).Pairwise lexB := (allL_sorted a.length a.sum a.sum).filter _
 have hp := und_rank hg
 cases e : undL a with
 | nil =>
  rw [e] at hp
  simp at hp
 | cons h t =>
  have hh : h ∈ undL a := by rw [e]; exact List.mem_cons_self
  rw [e] at hs hp
  obtain ⟨h1, h2, h3⟩ := (und_mem hg h).1 hh
  have hd := (majB_dom _ _).1 h3
  rw [descL_of_desc h1] at hd
  have : h = descL a := by
   rcases List.mem_cons.1 hp with k | k
   · exact k.symm
   · rcases dom_lex _ _ hd with k2 | k2
     · exact k2
     · exact absurd (lexB_trans _ _ _ k2 ((List.pairwise_cons.1 hs).1 _ k)) (lexB_irrefl _)
  rw [this]
  rfl
theorem ugAll_mem (p : List Int) (x : List Int) : x ∈ ugAll p 0 p.length ↔ ∃ i j : Nat, i < p.length ∧ j < p.length ∧ rd p (i : Int) ≥ rd p (j : Int) + 2 ∧ x = descL (giveL p (i : Int) (j : Int) 1) := by
 unfold ugAll ugRow
 rw [List.mem_flatMap]
 constructor
 · rintro ⟨i, hi, hx⟩
   obtain ⟨j, hj, hx⟩ := List.mem_filterMap.1 hx
   rw [List.mem_range'_1] at hi hj
   unfold ugF at hx
   split at hx
   · next c => exact ⟨i, j, by omega, by omega, c, by simpa using hx.symm⟩
   · cases hx
 · rintro ⟨i, j, hi, hj, c, e⟩
   refine ⟨i, List.mem_range'_1.2 (by omega), List.mem_filterMap.2 ⟨j, List.mem_range'_1.2 (by omega), ?_⟩⟩
   unfold ugF
   rw [if_pos c, e]
theorem ugAll_le (p : List Int) : ∀ (d i : Nat), (ugAll p i d).length ≤ d * p.length
 | 0, i => by simp [ugAll]
 | d + 1, i => by
  rw [ugAll_succ, List.length_append, Nat.succ_mul]
  have := ugAll_le p d (i + 1)
  have := ugRow_le p i 0 p.length
  omega
end Go.Proofs.YtefbphpgaeffaaaDoor.A

namespace Go.Proofs.YtefbphpgaeffaaaDoor.A
open Go.RowKit Go.Proofs.YtefbphpgaeffaaaDoorW.PrintWords Go.Proofs.YtefbphpgaeffaaaDoorW.PrintLast Go.Proofs.YtefbphpgaeffaaaDoorW.PrintMore
set_option linter.unusedVariables false
set_option linter.unusedSimpArgs false
end Go.Proofs.YtefbphpgaeffaaaDoor.A

namespace Go.Proofs.YtefbphpgaeffaaaDoor.A
open Go.RowKit Go.Proofs.YtefbphpgaeffaaaDoorW.PrintWords Go.Proofs.YtefbphpgaeffaaaDoorW.PrintLast Go.Proofs.YtefbphpgaeffaaaDoorW.PrintMore
set_option linter.unusedVariables false
set_option linter.unusedSimpArgs false
end Go.Proofs.YtefbphpgaeffaaaDoor.A

namespace Go.Proofs.YtefbphpgaeffaaaDoor.A
open Go.RowKit Go.Proofs.YtefbphpgaeffaaaDoorW.PrintWords Go.Proofs.YtefbphpgaeffaaaDoorW.PrintLast Go.Proofs.YtefbphpgaeffaaaDoorW.PrintMore
set_option linter.unusedVariables false
set_option linter.unusedSimpArgs false
/-! the longest way by unit gifts to lists that majorize a list -/
theorem fmap_congr {α β : Type} {f g : α → Option β} : ∀ {l : List α}, (∀ x ∈ l, f x = g x) → l.filterMap f = l.filterMap g
 | [], _ => rfl
 | a :: l, h => by
  rw [List.filterMap_cons, List.filterMap_cons, h a (List.mem_cons_self ..), fmap_congr (fun x hx => h x (List.mem_cons_of_mem _ hx))]
theorem allU_ug (p a : List Int) (hp : goodL p = true) : allU p a 0 p.length = (ugAll p 0 p.length).filter (majB a) := by
 unfold allU ugAll
 rw [List.filter_flatMap]
 have key : ∀ i ∈ List.range' 0 p.length, rowU p a i 0 p.length = (ugRow p i 0 p.length).filter (majB a) := fun i hi => by
  have hi' : i < p.length := by
   have := List.mem_range'_1.1 hi
   omega
  unfold rowU ugRow
  rw [List.filter_filterMap]
  apply fmap_congr
  intro j hj
  have hj' : j < p.length := by
   have := List.mem_range'_1.1 hj
   omega
  have b1 := rd_good hp (i := (i : Int)) (by omega) (by omega)
  have b2 := rd_good hp (i := (j : Int)) (by omega) (by omega)
  have hk : kindB p (i : Int) (j : Int) 1 = true ↔ rd p (i : Int) ≥ rd p (j : Int) + 2 := by
   rw [kindB_iff, isG_iff]
   constructor
   · omega
   · intro h
     have hij : i ≠ j := fun e => by rw [e] at h; omega
     omega
  unfold unitF unitB ugF
  by_cases c : rd p (i : Int) ≥ rd p (j : Int) + 2
  · rw [hk.2 c, if_pos c, Bool.true_and, Option.filter_some, majB_descR]
  · rw [if_neg c, Bool.eq_false_iff.2 (fun h => c (hk.1 h)), Bool.false_and]
    rfl
 generalize List.range' 0 p.length = R at key ⊢
 induction R with
 | nil => rfl
 | cons i R ih =>
  rw [List.flatMap_cons, List.flatMap_cons, key i (List.mem_cons_self ..), ih (fun k hk => key k (List.mem_cons_of_mem _ hk))]
structure Stp (p z : List Int) : Prop where
 good : goodL z = true
 desc : Desc z
 len : z.length = p.length
 sum : z.sum = p.sum
 maj : majB z p = true
 fall : sqS z < sqS p
theorem ug_stp {p z : List Int} (hp : goodL p = true) (h : z ∈ ugAll p 0 p.length) : Stp p z := by
 obtain ⟨i, j, hi, hj, c, rfl⟩ := (ugAll_mem _ _).1 h
 have hij : i ≠ j := fun e => by rw [e] at c; omega
 have hk : kindB p (i : Int) (j : Int) 1 = true := (kindB_iff _ _ _ _).2 ⟨(isG_iff _ _ _ _).2 ⟨by omega, by omega, by omega, by omega⟩, by omega, by omega⟩
 have h1 := sqS_give p (i : Int) (j : Int) 1 (by omega) (by omega) (by omega)
 have h2 := kind_fall hk
 refine ⟨by rw [good_desc]; exact kind_give p _ _ _ hp hk, descL_desc _, by rw [descL_length, giveL_length], by rw [descL_sum, giveL_sum p i j 1 hi hj hij], by rw [maj_desc_l]; exact kind_maj hk, ?_⟩
 rw [sqS_perm (descL_perm _)]
 omega
theorem allU_stp {p a z : List Int} (hp : goodL p = true) (h : z ∈ allU p a 0 p.length) : Stp p z ∧ majB a z = true := by
 rw [allU_ug p a hp] at h
 obtain ⟨h1, h2⟩ := List.mem_filter.1 h
 exact ⟨ug_stp hp h1, h2⟩
theorem sqS_nn {p : List Int} (hp : goodL p = true) : 0 ≤ sqS p ∧ sqS p ≤ 28800 := by
 have h := (goodL_iff p).1 hp
 obtain ⟨h1, h2, h3⟩ := fold_sq p 0 h.2.2 (by omega) (by omega)
 omega
def mxL (l : List Int) : Int := l.foldl max 0
theorem mx_go : ∀ (l : List Int) (m : Int), m ≤ l.foldl max m ∧ (∀ x ∈ l, x ≤ l.foldl max m) ∧ (l.foldl max m = m ∨ l.foldl max m ∈ l)
 | [], m => ⟨Int.le_refl m, by simp, Or.inl rfl⟩
 | a :: l, m => by
  obtain ⟨h1, h2, h3⟩ := mx_go l (max m a)
  rw [List.foldl_cons]
  refine ⟨by omega, fun x hx => ?_, ?_⟩
  · rcases List.mem_cons.1 hx with rfl | hx
    · omega
    · exact h2 x hx
  · rcases h3 with h3 | h3
    · rcases (show max m a = m ∨ max m a = a by omega) with e | e
      · left
        omega
      · right
        rw [h3, e]
        exact List.mem_cons_self ..
    · right
      exact List.mem_cons_of_mem _ h3
theorem mx_nn (l : List Int) : 0 ≤ mxL l := (mx_go l 0).1
theorem mx_le {l : List Int} {m : Int} (h0 : 0 ≤ m) (h : ∀ x ∈ l, x ≤ m) : mxL l ≤ m := by
 rcases (mx_go l 0).2.2 with e | e
 · exact Int.le_trans (Int.le_of_eq e) h0
 · exact h _ e
def lpN (a : List Int) : Nat → List Int → Int
 | 0, _ => 0
 | m + 1, x => mxL ((allU x a 0 x.length).map fun z => 1 + lpN a m z)
def lp (a x : List Int) : Int := lpN a (sqS x).toNat x
theorem lpN_stable (a : List Int) : ∀ (m m' : Nat) (x : List Int), goodL x = true → sqS x ≤ m → sqS x ≤ m' → lpN a m x = lpN a m' x
 | 0, 0, x, _, _, _ => rfl
 | 0, m' + 1, x, hg, h, _ => by
  have e : allU x a 0 x.length = [] := by
   apply List.eq_nil_iff_forall_not_mem.2
   intro z hz
   have h1 := (allU_stp hg hz).1
   have h2 := (sqS_nn h1.good).1
   have h3 := h1.fall
   omega
  simp only [lpN, e]
  rfl
 | m + 1, 0, x, hg, _, h => by
  have e : allU x a 0 x.length = [] := by
   apply List.eq_nil_iff_forall_not_mem.2
   intro z hz
   have h1 := (allU_stp hg hz).1
   have h2 := (sqS_nn h1.good).1
   have h3 := h1.fall
   omega
  simp only [lpN, e]
  rfl
 | m + 1, m' + 1, x, hg, h, h' => by
  simp only [lpN]
  congr 1
  apply List.map_congr_left
  intro z hz
  have h1 := (allU_stp hg hz).1
  have h3 := h1.fall
  rw [lpN_stable a m m' z h1.good (by omega) (by omega)]
theorem lp_step {a x : List Int} (hg : goodL x = true) : lp a x = mxL ((allU x a 0 x.length).map fun z => 1 + lp a z) := by
 have h0 := sqS_nn hg
 have e : lp a x = lpN a ((sqS x).toNat + 1) x := lpN_stable a _ _ x hg (by omega) (by omega)
 rw [e]
 simp only [lpN]
 congr 1
 apply List.map_congr_left
 intro z hz
 have h1 := (allU_stp hg hz).1
 have h3 := h1.fall
 have h4 := sqS_nn h1.good
 unfold lp
 rw [lpN_stable a (sqS x).toNat (sqS z).toNat z h1.good (by omega) (by omega)]
theorem lp_nn {a x : List Int} (hg : goodL x = true) : 0 ≤ lp a x := by
 rw [lp_step hg]
 exact mx_nn _
theorem lp_bd (a : List Int) : ∀ (m : Nat) (x : List Int), goodL x = true → sqS x ≤ m → lp a x ≤ sqS x
 | m, x, hg, h => by
  have h0 := sqS_nn hg
  rw [lp_step hg]
  refine mx_le h0.1 fun y hy => ?_
  obtain ⟨z, hz, rfl⟩ := List.mem_map.1 hy
  have h1 := (allU_stp hg hz).1
  have h3 := h1.fall
  have h4 := sqS_nn h1.good
  match m, h with
  | 0, h => omega
  | m + 1, h =>
   have := lp_bd a m z h1.good (by omega)
   omega
theorem lp_le {a x : List Int} (hg : goodL x = true) : lp a x ≤ 28800 := by
 have h0 := sqS_nn hg
 have := lp_bd a (sqS x).toNat x hg (by omega)
 omega
def lpR (a b : List Int) : Int × Bool := if betB a b = true then (if b.sum ≤ 20 then (lp a (descL b), true) else (0, false)) else (0, false)
end Go.Proofs.YtefbphpgaeffaaaDoor.A

namespace Go.Proofs.YtefbphpgaeffaaaDoor.A
open Go.RowKit Go.Proofs.YtefbphpgaeffaaaDoorW.PrintWords Go.Proofs.YtefbphpgaeffaaaDoorW.PrintLast Go.Proofs.YtefbphpgaeffaaaDoorW.PrintMore
set_option linter.unusedVariables false
set_option linter.unusedSimpArgs false
/-! the lists between two, from the greatest one down, and their longest ways -/
def btwL (a b : List Int) : List (List Int) := (undL b).filter (majB a)
theorem btw_sorted (a b : List Int) : (btwL a b).Pairwise lexB := ((allL_sorted b.length b.sum b.sum).filter _).filter _
theorem btw_mem {a b : List Int} (hb : betB a b = true) (h20 : b.sum ≤ 20) {x : List Int} : x ∈ btwL a b ↔ (goodL x = true ∧ Desc x ∧ majB x b = true ∧ majB a x = true) := by
 obtain ⟨ga, gb, hm⟩ := (betB_iff a b).1 hb
 unfold btwL
 rw [List.mem_filter]
 constructor
 · rintro ⟨h1, h2⟩
   obtain ⟨g1, _, g3, _, _⟩ := und_good gb (by omega) h1
   exact ⟨g1, g3, ((und_mem gb x).1 h1).2.2, h2⟩
 · rintro ⟨h1, h2, h3, h4⟩
   refine ⟨(und_mem gb x).2 ⟨h2, fun y hy => ?_, h3⟩, h4⟩
   have hx := ((goodL_iff x).1 h1).2.2
   have hs := ((majB_iff x b).1 h3).2.1
   have := mem_le_sum x (fun z hz => (hx z hz).1) hy
   have := (hx y hy).1
   omega
theorem btw_head {a b : List Int} (hb : betB a b = true) (h20 : b.sum ≤ 20) : (btwL a b).length ≤ 852891037441 ∧ ∃ h : 0 < (btwL a b).length, (btwL a b)[0] = descL b := by
 obtain ⟨ga, gb, hm⟩ := (betB_iff a b).1 hb
 refine ⟨Nat.le_trans (List.length_filter_le _ _) (und_bd b gb (by omega)), ?_⟩
 have e : btwL a b = descL b :: ((undL b).drop 1).filter (majB a) := by
  unfold btwL
  conv => lhs; rw [und_head gb]
  rw [List.filter_cons, if_pos (by rw [majB_descR]; exact hm)]
 rw [e]
 exact ⟨by simp, by simp⟩
theorem btw_ug {a b : List Int} (hb : betB a b = true) (h20 : b.sum ≤ 20) {k : Nat} (hk : k < (btwL a b).length) {y : List Int} (hy : y ∈ ugAll (btwL a b)[k] 0 (btwL a b)[k].length) : y ∈ (btwL a b).drop (k + 1) ↔ majB a y = true := by
 have hx := (btw_mem hb h20).1 (List.getElem_mem hk)
 have hs := ug_stp hx.1 hy
 constructor
 · intro h
   exact ((btw_mem hb h20).1 (List.mem_of_mem_drop h)).2.2.2
 · intro h
   have hin := (btw_mem hb h20).2 ⟨hs.good, hs.desc, maj_trans hs.maj hx.2.2.1, h⟩
   obtain ⟨j, hj, e⟩ := List.getElem_of_mem hin
   have hd := (majB_dom _ _).1 hs.maj
   rw [descL_of_desc hx.2.1, descL_of_desc hs.desc] at hd
   have hl : lexB (btwL a b)[k] y := by
    rcases dom_lex _ _ hd with c | c
    · have := hs.fall
      rw [c] at this
      omega
    · exact c
   have hp := List.pairwise_iff_getElem.1 (btw_sorted a b)
   have hjk : k < j := by
    apply Classical.byContradiction
    intro hn
    rcases Nat.lt_or_ge j k with c | c
    · have h1 := hp j k hj hk c
      rw [e] at h1
      exact lexB_irrefl _ (lexB_trans _ _ _ hl h1)
    · obtain rfl : j = k := by omega
      rw [e] at hl
      exact lexB_irrefl _ hl
   rw [← e]
   exact List.mem_drop_iff_getElem.2 ⟨j - (k + 1), by omega, by congr 1; omega⟩
def wayF (a : List Int) (R : List (List Int)) (v : Int) (y : List Int) : Int := if y ∈ R then max v (lp a y + 1) else v
theorem way_fold (a : List Int) (R : List (List Int)) : ∀ (ys : List (List Int)) (v : Int), (∀ y ∈ ys, y ∈ R ↔ majB a y = true) → ys.foldl (wayF a R) v = ((ys.filter (majB a)).map fun z => 1 + lp a z).foldl max v
 | [], v, _ => rfl
 | y :: ys, v, h => by
  rw [List.foldl_cons, List.filter_cons]
  have hy := h y (List.mem_cons_self ..)
  unfold wayF at *
  by_cases c : majB a y = true
  · rw [if_pos (hy.2 c), if_pos c, List.map_cons, List.foldl_cons, Int.add_comm 1 (lp a y)]
    exact way_fold a R ys _ (fun z hz => h z (List.mem_cons_of_mem _ hz))
  · rw [if_neg (fun m => c (hy.1 m)), if_neg c]
    exact way_fold a R ys _ (fun z hz => h z (List.mem_cons_of_mem _ hz))
theorem way_lp {a b : List Int} (hb : betB a b = true) (h20 : b.sum ≤ 20) {k : Nat} (hk : k < (btwL a b).length) : (ugAll (btwL a b)[k] 0 (btwL a b)[k].length).foldl (wayF a ((btwL a b).drop (k + 1))) 0 = lp a (btwL a b)[k] := by
 have hx := (btw_mem hb h20).1 (List.getElem_mem hk)
 rw [way_fold a _ _ 0 (fun y hy => btw_ug hb h20 hk hy), lp_step hx.1, allU_ug _ a hx.1]
 rfl
theorem way_nn {a : List Int} (R : List (List Int)) (hR : ∀ y ∈ R, goodL y = true) : ∀ (ys : List (List Int)) (v : Int), 0 ≤ v → v ≤ 30000 → 0 ≤ ys.foldl (wayF a R) v ∧ ys.foldl (wayF a R) v ≤ 30000
 | [], v, h0, h1 => ⟨h0, h1⟩
 | y :: ys, v, h0, h1 => by
  rw [List.foldl_cons]
  have : 0 ≤ wayF a R v y ∧ wayF a R v y ≤ 30000 := by
   unfold wayF
   split
   · next c =>
     have := lp_nn (a := a) (hR y c)
     have := lp_le (a := a) (hR y c)
     omega
   · exact ⟨h0, h1⟩
  exact way_nn R hR ys _ this.1 this.2
end Go.Proofs.YtefbphpgaeffaaaDoor.A

/-
  DERIVED: THE SHELF's CONTRACTS AT THIS DUMP, IN PLAIN WORDS (tools/lay-plain.mjs out of 'YtefbphpgaeffaaaDoorShelfT.lean', which tools/lay-shelf.mjs wrote): THE SAME DECLARATIONS UNDER THE SAME NAMES: 'import', 'namespace', 'open', 'def', 'theorem' AND NOTHING ELSE: no command of the shelf's: FOR A HAND-IN. Each laying: the table of numbers ('.._ren') and one theorem, a field a fact of the dump's own or the kernel's comparison; each contract: ONE APPLICATION.
-/
namespace Go.Proofs
open Go.Shelf
def Tryd.itoaL_ren : Go.Shelf.Ren := ⟨fun | 171 => 28 | 243 => 44 | 246 => 64 | 283 => 74 | 284 => 75 | 285 => 76 | 286 => 77 | 129 => 63 | 317 => 81 | 318 => 82 | 319 => 83 | 320 => 84 | 337 => 85 | 338 => 86 | n => n, fun | 3 => 3 | 9 => 9 | 2 => 2 | 4 => 4 | 171 => 79 | 0 => 0 | 53 => 70 | 37 => 51 | 5 => 5 | 173 => 81 | 212 => 91 | 51 => 68 | 20 => 20 | 213 => 92 | 46 => 49 | 232 => 94 | 233 => 95 | n => n, fun | 17 => 0 | 18 => 2 | 19 => 3 | n => n⟩
theorem Tryd.itoaL : Go.Proofs.Lays.n171 Tryd.prog Tryd.itoaL_ren := {
 mixed := by kernel_rfl
 f129 := Tryd.func63.trans (congrArg some (by kernel_rfl))
 f171 := Tryd.func28.trans (congrArg some (by kernel_rfl))
 f243 := Tryd.func44.trans (congrArg some (by kernel_rfl))
 f246 := Tryd.func64.trans (congrArg some (by kernel_rfl))
 f283 := Tryd.func74.trans (congrArg some (by kernel_rfl))
 f284 := Tryd.func75.trans (congrArg some (by kernel_rfl))
 f285 := Tryd.func76.trans (congrArg some (by kernel_rfl))
 f286 := Tryd.func77.trans (congrArg some (by kernel_rfl))
 f317 := Tryd.func81.trans (congrArg some (by kernel_rfl))
 f318 := Tryd.func82.trans (congrArg some (by kernel_rfl))
 f319 := Tryd.func83.trans (congrArg some (by kernel_rfl))
 f320 := Tryd.func84.trans (congrArg some (by kernel_rfl))
 f337 := Tryd.func85.trans (congrArg some (by kernel_rfl))
 f338 := Tryd.func86.trans (congrArg some (by kernel_rfl))
 t0 := Tryd.underlying0
 a0 := Tryd.isAgg0
 z0 := Tryd.sizeOf0
 v0 := Tryd.zeroValue0
 t2 := Tryd.underlying2
 a2 := Tryd.isAgg2
 z2 := Tryd.sizeOf2
 v2 := Tryd.zeroValue2
 t3 := Tryd.underlying3
 a3 := Tryd.isAgg3
 z3 := Tryd.sizeOf3
 v3 := Tryd.zeroValue3
 t4 := Tryd.underlying4
 a4 := Tryd.isAgg4
 z4 := Tryd.sizeOf4
 v4 := Tryd.zeroValue4
 t5 := Tryd.underlying5
 a5 := Tryd.isAgg5
 z5 := Tryd.sizeOf5
 v5 := Tryd.zeroValue5
 t9 := Tryd.underlying9
 a9 := Tryd.isAgg9
 z9 := Tryd.sizeOf9
 v9 := Tryd.zeroValue9
 t20 := Tryd.underlying20
 a20 := Tryd.isAgg20
 z20 := Tryd.sizeOf20
 v20 := Tryd.zeroValue20
 t37 := Tryd.underlying51
 a37 := Tryd.isAgg51
 z37 := Tryd.sizeOf51
 v37 := Tryd.zeroValue51
 t46 := Tryd.underlying49
 a46 := Tryd.isAgg49
 z46 := Tryd.sizeOf49
 v46 := Tryd.zeroValue49
 t51 := Tryd.underlying68
 a51 := Tryd.isAgg68
 z51 := Tryd.sizeOf68
 v51 := Tryd.zeroValue68
 t53 := Tryd.underlying70
 a53 := Tryd.isAgg70
 z53 := Tryd.sizeOf70
 v53 := Tryd.zeroValue70
 t171 := Tryd.underlying79
 a171 := Tryd.isAgg79
 z171 := Tryd.sizeOf79
 v171 := Tryd.zeroValue79
 t173 := Tryd.underlying81
 a173 := Tryd.isAgg81
 z173 := Tryd.sizeOf81
 v173 := Tryd.zeroValue81
 t212 := Tryd.underlying91
 a212 := Tryd.isAgg91
 z212 := Tryd.sizeOf91
 v212 := Tryd.zeroValue91
 t213 := Tryd.underlying92
 a213 := Tryd.isAgg92
 z213 := Tryd.sizeOf92
 t232 := Tryd.underlying94
 a232 := Tryd.isAgg94
 z232 := Tryd.sizeOf94
 v232 := Tryd.zeroValue94
 t233 := Tryd.underlying95
 a233 := Tryd.isAgg95
 z233 := Tryd.sizeOf95
 v233 := Tryd.zeroValue95
 g17 := by kernel_rfl
 g18 := by kernel_rfl
 g19 := by kernel_rfl }
def Tryd.joinL_ren : Go.Shelf.Ren := ⟨fun | 156 => 29 | 165 => 45 | 166 => 46 | 169 => 47 | 240 => 65 | 241 => 66 | 276 => 78 | 277 => 79 | n => n, fun | 31 => 37 | 9 => 9 | 3 => 3 | 4 => 4 | 0 => 0 | 20 => 20 | 72 => 53 | 76 => 57 | 70 => 50 | 37 => 51 | 75 => 56 | 127 => 72 | 164 => 83 | 5 => 5 | 80 => 59 | n => n, fun | n => n⟩
theorem Tryd.joinL : Go.Proofs.Lays.n156 Tryd.prog Tryd.joinL_ren := {
 mixed := by kernel_rfl
 f156 := Tryd.func29.trans (congrArg some (by kernel_rfl))
 f165 := Tryd.func45.trans (congrArg some (by kernel_rfl))
 f166 := Tryd.func46.trans (congrArg some (by kernel_rfl))
 f169 := Tryd.func47.trans (congrArg some (by kernel_rfl))
 f240 := Tryd.func65.trans (congrArg some (by kernel_rfl))
 f241 := Tryd.func66.trans (congrArg some (by kernel_rfl))
 f276 := Tryd.func78.trans (congrArg some (by kernel_rfl))
 f277 := Tryd.func79.trans (congrArg some (by kernel_rfl))
 t0 := Tryd.underlying0
 a0 := Tryd.isAgg0
 z0 := Tryd.sizeOf0
 v0 := Tryd.zeroValue0
 t3 := Tryd.underlying3
 a3 := Tryd.isAgg3
 z3 := Tryd.sizeOf3
 v3 := Tryd.zeroValue3
 t4 := Tryd.underlying4
 a4 := Tryd.isAgg4
 z4 := Tryd.sizeOf4
 v4 := Tryd.zeroValue4
 t9 := Tryd.underlying9
 a9 := Tryd.isAgg9
 z9 := Tryd.sizeOf9
 v9 := Tryd.zeroValue9
 t20 := Tryd.underlying20
 a20 := Tryd.isAgg20
 z20 := Tryd.sizeOf20
 v20 := Tryd.zeroValue20
 t31 := Tryd.underlying37
 a31 := Tryd.isAgg37
 z31 := Tryd.sizeOf37
 v31 := Tryd.zeroValue37
 t37 := Tryd.underlying51
 a37 := Tryd.isAgg51
 z37 := Tryd.sizeOf51
 v37 := Tryd.zeroValue51
 t70 := Tryd.underlying50
 a70 := Tryd.isAgg50
 z70 := Tryd.sizeOf50
 v70 := Tryd.zeroValue50
 t72 := Tryd.underlying53
 a72 := Tryd.isAgg53
 z72 := Tryd.sizeOf53
 v72 := Tryd.zeroValue53
 t75 := Tryd.underlying56
 a75 := Tryd.isAgg56
 z75 := Tryd.sizeOf56
 v75 := Tryd.zeroValue56
 t76 := Tryd.underlying57
 a76 := Tryd.isAgg57
 z76 := Tryd.sizeOf57
 v76 := Tryd.zeroValue57
 t127 := Tryd.underlying72
 a127 := Tryd.isAgg72
 z127 := Tryd.sizeOf72
 v127 := Tryd.zeroValue72
 t164 := Tryd.underlying83
 a164 := Tryd.isAgg83
 z164 := Tryd.sizeOf83
 v164 := Tryd.zeroValue83 }
theorem Tryd.joinX : Builder.Extra Tryd.prog Tryd.joinL_ren := {
 sizeBuilder := by kernel_rfl
 liesBuilder := by kernel_rfl
 t5 := Tryd.underlying5
 a5 := Tryd.isAgg5
 z5 := Tryd.sizeOf5
 v5 := Tryd.zeroValue5
 infoByte := by kernel_rfl
 cellsByte := by kernel_rfl
 sizeByte := by kernel_rfl
 neB5 := by decide }
end Go.Proofs

/- strconv.Itoa at numbers below a hundred, strings.Join (the shelf's contracts, laid). -/
namespace Go.Proofs.YtefbphpgaeffaaaDoor.A
open Go.RowKit Go.Proofs.YtefbphpgaeffaaaDoorW.PrintWords Go.Proofs.YtefbphpgaeffaaaDoorW.PrintLast Go.Proofs.YtefbphpgaeffaaaDoorW.PrintMore
attribute [local go_sem] max2_int min2_int max_two min_two max_three min_three max_four min_four
set_option linter.unusedVariables false
set_option linter.unusedSimpArgs false

open Go.Lib
def strconv_Itoa_28.f (a0 : Int) : Option ByteArray := if 0 ≤ a0 ∧ a0 < 100 then some ⟨(Go.Lib.decDigits a0.toNat).toArray⟩ else none
theorem strconv_Itoa_28.calls (a0 : Int) (r : ByteArray) (w : World) (h : strconv_Itoa_28.f a0 = some r) :
 Calls Tryd.prog 28 #[.int .i64 a0] w fun e w' => e = .returned (.string r) ∧ Below w.heap.size w w' := by
 unfold strconv_Itoa_28.f at h
 split at h
 · next hb =>
   have hr := Option.some.inj h
   obtain ⟨i, rfl⟩ := Int.eq_ofNat_of_zero_le hb.1
   have hc := Go.Proofs.Any.strconv_Itoa_small Tryd.itoaL i (by omega) w
   change Calls Tryd.prog 28 _ _ _ at hc
   refine hc.mono ?_
   rintro e w' ⟨rfl, rfl⟩
   refine ⟨?_, Below.refl _ _⟩
   rw [← hr, Int.toNat_natCast]
 · cases h
end Go.Proofs.YtefbphpgaeffaaaDoor.A

/- strings.Join (the shelf's contract, laid). -/
namespace Go.Proofs.YtefbphpgaeffaaaDoor.A
open Go.RowKit Go.Proofs.YtefbphpgaeffaaaDoorW.PrintWords Go.Proofs.YtefbphpgaeffaaaDoorW.PrintLast Go.Proofs.YtefbphpgaeffaaaDoorW.PrintMore
attribute [local go_sem] max2_int min2_int max_two min_two max_three min_three max_four min_four
set_option linter.unusedVariables false
set_option linter.unusedSimpArgs false

open Go.Lib
theorem own_spot {w : World} {base : Nat} {e : TypeId} {size n m : Nat} {A : Option Addr} {c : Nat} {xs : List Value} (h : w.ownsRow base e size (.slice A n c) m xs) : ∀ ad, A = some ad → ad.spot = none := by
 rintro ad rfl
 rcases h.2 with ⟨h2, _⟩ | ⟨g, cap, cur, h2, _⟩
 · cases h2
 · cases h2
   rfl
theorem spotR {α : Type} {d : Kd α} {e : Nat} {W : World} {base : Nat} {ok : Nat → Prop} {A : Option Addr} {n c : Nat} {xs : List α} (h : Aside0 (Kd.R d e W base ok (.slice A n c) xs)) : ∀ ad, A = some ad → ad.spot = none := by
 obtain ⟨_, inner, ho, _⟩ := h.out
 exact own_spot ho
def joinL (l0 : List ByteArray) (a1 : ByteArray) : List UInt8 := Go.Lib.join (l0.map (·.data.toList)) a1.data.toList
def strings_Join.f (l0 : List ByteArray) (a1 : ByteArray) : Option ByteArray := if l0.length ≤ 140737488355328 ∧ (joinL l0 a1).length ≤ 140737488355328 then some ⟨(joinL l0 a1).toArray⟩ else none
theorem strings_Join.calls (A0 : Option Addr) (c0 : Nat) (l0 : List ByteArray) (a1 : ByteArray) (r : ByteArray) (w : World) (hr0 : Kd.C Kd.string w A0 l0.length l0) (hc0 : l0.length ≤ c0) (h : strings_Join.f l0 a1 = some r) (hs : ∀ ad, A0 = some ad → ad.spot = none := by exact spotR (by assumption)) :
 Calls Tryd.prog 29 #[.slice A0 l0.length c0, .string a1] w fun e w' => e = .returned (.string r) ∧ Below w.heap.size w w' := by
 unfold strings_Join.f at h
 split at h
 · next hb =>
   have hr := Option.some.inj h
   have hn := (Kd.reads_of_C (d := ByteArray.empty) (h1 := fun _ => rfl) hr0).2.2
   cases l0 with
   | nil =>
    have hc := Go.Proofs.Any.strings_Join_none Tryd.joinL Tryd.joinX A0 c0 a1 w
    change Calls Tryd.prog 29 _ _ _ at hc
    refine hc.mono ?_
    rintro e w' ⟨rfl, rfl⟩
    refine ⟨?_, Below.refl _ _⟩
    rw [← hr]
    rfl
   | cons x t =>
    obtain ⟨ad, e, hcell⟩ := hn (by simp)
    subst e
    have h0 := hcell 0 (by simp)
    have hsp := hs _ rfl
    obtain ⟨blk, off, spot⟩ := ad
    simp only at hsp
    subst hsp
    have hat : ∀ j, (⟨blk, off, none⟩ : Addr).add j = ⟨blk, off + j, none⟩ := fun j => by
     unfold Addr.add
     split
     · next e => subst e; rfl
     · rfl
    have hc := Go.Proofs.Any.strings_Join Tryd.joinL Tryd.joinX blk off c0 (x :: t) a1 w (fun j y hj => ?_) ?_ hb.1 hc0 hb.2
    · change Calls Tryd.prog 29 _ _ _ at hc
      refine hc.mono ?_
      rintro e w' ⟨rfl, hw⟩
      refine ⟨?_, hw⟩
      rw [← hr]
      rfl
    · have hjl := (List.getElem?_eq_some_iff.1 hj).1
      have := hcell j hjl
      rw [hat] at this
      rw [this, List.getD_eq_getElem?_getD, hj]
      rfl
    · exact World.block_lt_of_cell? w _ h0
 · cases h
end Go.Proofs.YtefbphpgaeffaaaDoor.A

-- made by a program of this repo (wip/pp.py) through the kit's printer
namespace Go.Proofs.YtefbphpgaeffaaaDoor.A
open Go.RowKit Go.Proofs.YtefbphpgaeffaaaDoorW.PrintWords Go.Proofs.YtefbphpgaeffaaaDoorW.PrintLast Go.Proofs.YtefbphpgaeffaaaDoorW.PrintMore
attribute [local go_sem] max2_int min2_int max_two min_two max_three min_three max_four min_four
set_option linter.unusedVariables false
set_option linter.unusedSimpArgs false

/-! ### impl_listText: function 15 -/
def impl_listText.l0 : Nat → List ByteArray → List Int → Int → Int → Option (ByteArray)
 | 0, _, _, _, _ => none
 | k + 1, x3, x7, x8, x9 => if x9 < x8 then (if 0 ≤ x9 then (if x9 < (x7.length : Int) then ((strconv_Itoa_28.f (rd x7 x9)).bind fun t312 => (if x3.length < 8796093022208 then (impl_listText.l0 k (x3 ++ [t312]) x7 x8 (wrap64 (x9 + 1))) else (none))) else (none)) else (none)) else ((strings_Join.f x3 (⟨#[32]⟩ : ByteArray)).bind fun t316 => (some t316))
def impl_listText.f (k : Nat) (l0 : List Int) : Option (ByteArray) := impl_listText.l0 k (([] : List ByteArray)) l0 (l0.length : Int) 0
set_option maxHeartbeats 8000000 in
set_option maxRecDepth 100000 in
theorem impl_listText.calls (k : Nat) (A0 : Option Addr) (c0 : Nat) (l0 : List Int) (r : ByteArray) (w : World) (hr0 : Kd.C (Kd.int .i64) w A0 l0.length l0) (hc0 : l0.length ≤ c0) (h : impl_listText.f k l0 = some r) :
 Calls Tryd.prog 15 #[.slice A0 l0.length c0] w fun e w' => e = .returned (.string r) ∧ Below w.heap.size w w' := by
 have HR0 := Aside0.mk hr0
 have HC0 := Aside0.mk hc0
 clear hr0 hc0
 have HB := Aside0.mk (Below.refl w.heap.size w)
 have H : (impl_listText.l0 k (([] : List ByteArray)) l0 (l0.length : Int) 0) = some r := h
 clear h
 obtain ⟨y308, hy308⟩ : ∃ y_ : List ByteArray, y_ = (([] : List ByteArray)) := ⟨_, rfl⟩
 replace H : (impl_listText.l0 k y308 l0 (l0.length : Int) 0) = some r := by first | (rw [hy308]; with_reducible exact H) | (have H2_ := (Option.bind_some _ _).symm.trans H; rw [hy308]; with_reducible exact H2_) | (have H2_ := (Option.bind_some _ _).symm.trans H; with_reducible exact H2_) | with_reducible exact H | (rw [hy308]; exact H) | exact H
 have Ny308 := Aside0.mk hy308
 clear hy308
 have H' := Aside0.mk H
 clear H
 go_enter Tryd.func15, Tryd.ntmps15
 go_wp2_with (first | ((with_reducible refine gate_dst (N := 6) rfl ?_); refine Kd.R_lit Kd.string _ 9 ?hg (N := 6) ?hd (xs := ([] : List ByteArray)) (inner := []) (ok := fun _ => True) (okp := fun _ => True) ?hr ?hp (fun _ hk => hk) trivial (Below.refl _ _) (Nat.le_refl _) (by simp) ?_; (case hd => rfl); (case hg => rfl); (case hr => first | (go_simp; done) | (go_simp; rfl)); (case hp => exact (Reps.none _ _)); intro v309 w2 ho3 hb hg_ hnew_; clear hg_ hnew_; (first | rw [← Ny308.out] at ho3 | (simp only [Int.reduceToNat] at ho3; rw [← Ny308.out] at ho3)); have n0_ := Aside0.mk (Kd.R_lower ho3 (below_size (by repeat (first | (with_reducible first | exact HB.out | apply below_alloc | apply pw_below_drewN | apply below_drew1) | exact HB.out)))); have n1_ := Aside0.mk (below_step (by repeat (first | (with_reducible first | exact HB.out | apply below_alloc | apply pw_below_drewN | apply below_drew1) | exact HB.out)) hb); clear HB; have HO310 := n0_; have HB := n1_; clear n0_ n1_; clear hb ho3))
 go_loopg [3, 9] k (fun kq v3 v9 w' => ∃ (x3_1 : List ByteArray) (x9_1 : Int), v9 = .int .i64 x9_1 ∧ Aside0 (impl_listText.l0 kq x3_1 l0 (l0.length : Int) x9_1 = some r) ∧ Aside0 (kq ≤ k) ∧ Aside0 (Kd.R Kd.string 9 w' w.heap.size (fun _ => True) v3 x3_1) ∧ Aside0 (Below w.heap.size w w'))
 case atStart => exact ⟨(y308), (0), (by first | rfl | (simp; done) | (simp [*]; done)), H', ⟨Nat.le_refl _⟩, ⟨by (with_reducible repeat (first | apply Kd.R_alloc | apply Kd.R_drewN | apply Kd.R_drew)); exact HO310.out⟩, ⟨by repeat (first | (with_reducible first | exact HB.out | apply below_alloc | apply pw_below_drewN | apply below_drew1) | exact HB.out)⟩⟩
 case round =>
  clear H'
  try clear c1
  try clear p2
  obtain ⟨x3_1, x9_1, rfl, HA, HK1, HO_3, HB⟩ := hrel
  cases gk with
  | zero => exact absurd HA.out (by simp [impl_listText.l0])
  | succ k1 =>
   have H := HA.out
   clear HA
   simp only [impl_listText.l0] at H
   by_cases c4 : x9_1 < (l0.length : Int)
   · rw [if_pos c4] at H
     have c4b0 : decide (x9_1 < (l0.length : Int)) = true := decide_eq_true c4
     clear c4
     by_cases c5 : 0 ≤ x9_1
     · rw [if_pos c5] at H
       have c5b0 : decide (0 ≤ x9_1) = true := decide_eq_true c5
       clear c5
       by_cases c6 : x9_1 < (l0.length : Int)
       · rw [if_pos c6] at H
         have c6b0 : decide (x9_1 < (l0.length : Int)) = true := decide_eq_true c6
         clear c6
         replace H := Option.bind_eq_some_iff.mp H
         obtain ⟨t312, A70, H⟩ := H
         replace H : (if x3_1.length < 8796093022208 then (impl_listText.l0 k1 (x3_1 ++ [t312]) l0 (l0.length : Int) (wrap64 (x9_1 + 1))) else (none)) = some r := H
         have A7 := Aside0.mk A70
         clear A70
         by_cases c8 : x3_1.length < 8796093022208
         · rw [if_pos c8] at H
           have LMc8 := Aside0.mk c8
           clear c8
           obtain ⟨y313, hy313⟩ : ∃ y_ : List ByteArray, y_ = (x3_1 ++ [t312]) := ⟨_, rfl⟩
           replace H : (impl_listText.l0 k1 y313 l0 (l0.length : Int) (wrap64 (x9_1 + 1))) = some r := by first | (rw [hy313]; with_reducible exact H) | (have H2_ := (Option.bind_some _ _).symm.trans H; rw [hy313]; with_reducible exact H2_) | (have H2_ := (Option.bind_some _ _).symm.trans H; with_reducible exact H2_) | with_reducible exact H | (rw [hy313]; exact H) | exact H
           have Ny313 := Aside0.mk hy313
           clear hy313
           have H' := Aside0.mk H
           clear H
           have p311 : 0 ≤ (x9_1 : Int) := of_decide_eq_true (by first | (with_reducible assumption) | assumption)
           have q311 : x9_1 < (l0.length : Int) := of_decide_eq_true (by first | (with_reducible assumption) | assumption)
           obtain ⟨ad311, e311, hx311_0⟩ := Kd.at_int HR0.out x9_1 p311 q311
           cases e311
           replace hx311_0 := (HB.out.cell (World.block_lt_of_cell? w _ hx311_0)).trans hx311_0
           replace p311 := eq_true p311
           replace q311 := eq_true q311
           go_wp2_with (first | ((with_reducible refine gate_callee (f := 28) rfl ?_); refine goesL_ (some 15) rfl rfl Tryd.func28 (by kernel_rfl) rfl #[.int .i64 (rd l0 x9_1)] rfl (by (try simp only [List.map_toArray, List.map_cons, List.map_nil]); first | done | rfl | (simp only [List.length_drop, List.length_take]; rfl)) ?_; (with_reducible refine (strconv_Itoa_28.calls (rd l0 x9_1) t312 _ A7.out).mono ?_); rintro e w9 ⟨rfl, hb⟩; refine ⟨_, rfl, ?_⟩; have n0_ := Aside0.mk (Kd.R_below (by (with_reducible repeat (first | apply Kd.R_alloc | apply Kd.R_drewN | apply Kd.R_drew)); exact HO_3.out) hb); have n1_ := Aside0.mk (below_step (by repeat (first | (with_reducible first | exact HB.out | apply below_alloc | apply pw_below_drewN | apply below_drew1) | exact HB.out)) hb); clear HO_3; clear HB; have HO_3 := n0_; have HB := n1_; clear n0_ n1_; (try clear hb); (try clear hb2); (try clear hk); (try clear hi)) | ((with_reducible refine gate_builtin (b := .append) (xs := #[.tmp 13, .tmp 16]) rfl ?_); at_builtin; refine Kd.R_append Kd.string (w0 := w) w.heap.size rfl (.tmp 13) (.tmp 16) 37 9 (.string ⟨#[]⟩) 16 rfl Tryd.underlying37 info9 rfl (by decide) (by omega) u3 x3_1 t312 [.string t312] (fun _ => True) (fun _ => False) rfl rfl ?aP (fun _ hk => hk.elim) ?aF ?aO ?aB ?aS ?aL ?_; (case aP => exact rfl); (case aB => exact (by repeat (first | (with_reducible first | exact HB.out | apply below_alloc | apply pw_below_drewN | apply below_drew1) | exact HB.out))); (case aF => exact (fun _ _ => trivial)); (case aO => exact (by (with_reducible repeat (first | apply Kd.R_alloc | apply Kd.R_drewN | apply Kd.R_drew)); exact HO_3.out)); (case aS => exact (below_size (by repeat (first | (with_reducible first | exact HB.out | apply below_alloc | apply pw_below_drewN | apply below_drew1) | exact HB.out)))); (case aL => have := LMc8.out; omega); intro v314 w10 ho hb hg hat; rw [← Ny313.out] at ho; have n0_ := Aside0.mk (hb); have n1_ := Aside0.mk (ho); clear HB; clear HO_3; have HB := n0_; have HO315 := n1_; clear n0_ n1_; clear ho hb hg hat))
           go_roundg k1
           case measure => have := HK1.out; omega
           case rel => exact ⟨(y313), (wrap64 (x9_1 + 1)), (by first | rfl | (simp; done) | (simp [*]; done)), H', ⟨by have := HK1.out; omega⟩, ⟨by (with_reducible repeat (first | apply Kd.R_alloc | apply Kd.R_drewN | apply Kd.R_drew)); exact HO315.out⟩, ⟨by repeat (first | (with_reducible first | exact HB.out | apply below_alloc | apply pw_below_drewN | apply below_drew1) | exact HB.out)⟩⟩
         · rw [if_neg c8] at H
           exact absurd H (by simp)
       · rw [if_neg c6] at H
         exact absurd H (by simp)
     · rw [if_neg c5] at H
       exact absurd H (by simp)
   · rw [if_neg c4] at H
     have c4b0 : decide (x9_1 < (l0.length : Int)) = false := decide_eq_false c4
     clear c4
     replace H := Option.bind_eq_some_iff.mp H
     obtain ⟨t316, A110, H⟩ := H
     replace H : (some t316) = some r := H
     have A11 := Aside0.mk A110
     clear A110
     obtain rfl := Option.some.inj H
     obtain ⟨Ao12, co12, eo12⟩ := Kd.R_slice HO_3.out
     subst eo12
     go_wp2_with (first | ((with_reducible refine gate_callee (f := 29) rfl ?_); refine goesL_ (some 20) rfl rfl Tryd.func29 (by kernel_rfl) rfl #[.slice Ao12 x3_1.length co12, .string (⟨#[32]⟩ : ByteArray)] rfl (by (try simp only [List.map_toArray, List.map_cons, List.map_nil]); first | done | rfl | (simp only [List.length_drop, List.length_take]; rfl)) ?_; (with_reducible refine (strings_Join.calls _ _ x3_1 (⟨#[32]⟩ : ByteArray) t316 _ ?side1 ?side2 A11.out).mono ?_); (case side1 => repeat (first | exact (Kd.R_reads' HO_3.out).2.2 | (with_reducible refine Kd.C_alloc ?_ _) | (with_reducible refine Kd.C_drewN ?_ _) | (with_reducible refine Kd.C_drew ?_))); (case side2 => exact (Kd.R_reads' HO_3.out).2.1); rintro e w13 ⟨rfl, hb⟩; refine ⟨_, rfl, ?_⟩; have n0_ := Aside0.mk (Kd.R_below (by (with_reducible repeat (first | apply Kd.R_alloc | apply Kd.R_drewN | apply Kd.R_drew)); exact HO_3.out) hb); have n1_ := Aside0.mk (below_step (by repeat (first | (with_reducible first | exact HB.out | apply below_alloc | apply pw_below_drewN | apply below_drew1) | exact HB.out)) hb); clear HO_3; clear HB; have HO_3 := n0_; have HB := n1_; clear n0_ n1_; (try clear hb); (try clear hb2); (try clear hk); (try clear hi)))
     go_ret
     exact ⟨by first | rfl | (simp [errW_none, errW_some] <;> rfl) | (simp [*, errW_none, errW_some] <;> rfl), by repeat (first | (with_reducible first | exact HB.out | apply below_alloc | apply pw_below_drewN | apply below_drew1) | exact HB.out)⟩

end Go.Proofs.YtefbphpgaeffaaaDoor.A

namespace Go.Proofs.YtefbphpgaeffaaaDoor.A
open Go.RowKit Go.Proofs.YtefbphpgaeffaaaDoorW.PrintWords Go.Proofs.YtefbphpgaeffaaaDoorW.PrintLast Go.Proofs.YtefbphpgaeffaaaDoorW.PrintMore
set_option linter.unusedVariables false
set_option linter.unusedSimpArgs false
/-! the text of a list -/
def itoaB (n : Int) : ByteArray := ⟨(Go.Lib.decDigits n.toNat).toArray⟩
def textL (l : List Int) : List UInt8 := Go.Lib.join (l.map fun n => Go.Lib.decDigits n.toNat) [32]
def textB (l : List Int) : ByteArray := ⟨(textL l).toArray⟩
theorem ba_size (a : List UInt8) : (⟨a.toArray⟩ : ByteArray).size = a.length := by
 show a.toArray.size = a.length
 simp
theorem digs_len {n : Int} (h0 : 0 ≤ n) (h1 : n < 100) : (Go.Lib.decDigits n.toNat).length ≤ 2 ∧ 1 ≤ (Go.Lib.decDigits n.toNat).length := by
 by_cases c : n.toNat < 10
 · rw [Go.Lib.decDigits_one c]
   exact ⟨by simp, by simp⟩
 · rw [Go.Lib.decDigits_two c (by omega)]
   exact ⟨by simp, by simp⟩
theorem lens_le {xs : List (List UInt8)} {m : Nat} (h : ∀ x ∈ xs, x.length ≤ m) : Go.Lib.lens xs ≤ m * xs.length := by
 induction xs with
 | nil => simp [Go.Lib.lens]
 | cons x r ih =>
  have h1 := ih fun y hy => h y (List.mem_cons_of_mem _ hy)
  have h2 := h x List.mem_cons_self
  simp only [Go.Lib.lens, List.map_cons, List.sum_cons, List.length_cons] at h1 ⊢
  rw [Nat.mul_succ]
  omega
theorem textL_len {l : List Int} (hl : l.length ≤ 100) (hx : ∀ x ∈ l, 0 ≤ x ∧ x < 100) : (textL l).length ≤ 1000 := by
 unfold textL
 cases l with
 | nil => simp [Go.Lib.join_nil]
 | cons x r =>
  have h := lens_le (xs := (x :: r).map fun n => Go.Lib.decDigits n.toNat) (m := 2) (fun y hy => by
   obtain ⟨z, hz, rfl⟩ := List.mem_map.1 hy
   exact (digs_len (hx z hz).1 (hx z hz).2).1)
  rw [List.length_map] at h
  rw [List.map_cons] at h ⊢
  rw [Go.Lib.join_length, List.length_map, List.length_singleton]
  rw [List.length_cons] at h hl
  omega
theorem joinL_text (l : List Int) : joinL (l.map itoaB) (⟨#[32]⟩ : ByteArray) = textL l := by
 unfold joinL textL
 rw [List.map_map]
 rfl
theorem listText_l (l : List Int) (hl : l.length ≤ 100) (hx : ∀ x ∈ l, 0 ≤ x ∧ x < 100) : ∀ (d i : Nat) (ws : List ByteArray), i + d = l.length → ws.length = i → ws ++ (l.drop i).map itoaB = l.map itoaB → Ev (fun k => impl_listText.l0 k ws l (l.length : Int) (i : Int)) (textB l)
 | 0, i, ws, hi, hw, he => by
  refine Ev.succ ?_
  rw [List.drop_eq_nil_of_le (by omega), List.map_nil, List.append_nil] at he
  have hlen := textL_len hl hx
  simp only [impl_listText.l0, if_neg (show ¬ (i : Int) < (l.length : Int) by omega), he]
  unfold strings_Join.f
  rw [joinL_text, if_pos ⟨by rw [List.length_map]; omega, by omega⟩]
  exact Ev.now _
 | d + 1, i, ws, hi, hw, he => by
  have hi2 : i < l.length := by omega
  have hb := hx _ (List.getElem_mem hi2)
  refine Ev.succ ?_
  simp only [impl_listText.l0, if_pos (show (i : Int) < (l.length : Int) by omega), if_pos (show (0 : Int) ≤ (i : Int) by omega), rdn hi2, wsucc hi2 (by omega)]
  unfold strconv_Itoa_28.f
  simp only [if_pos hb, Option.bind_some, if_pos (show ws.length < 8796093022208 by omega)]
  refine listText_l l hl hx d (i + 1) (ws ++ [itoaB l[i]]) (by omega) (by rw [List.length_append, List.length_singleton]; omega) ?_
  rw [← he, List.drop_eq_getElem_cons hi2, List.map_cons, List.append_assoc]
  rfl
theorem listText_ev (l : List Int) (hl : l.length ≤ 100) (hx : ∀ x ∈ l, 0 ≤ x ∧ x < 100) : Ev (fun k => impl_listText.f k l) (textB l) := listText_l l hl hx l.length 0 [] (by omega) rfl rfl
theorem good_few {l : List Int} (h : goodL l = true) : l.length ≤ 8 ∧ ∀ x ∈ l, 0 ≤ x ∧ x < 100 := by
 obtain ⟨_, h2, h3⟩ := (goodL_iff l).1 h
 exact ⟨h2, fun x hx => by have := h3 x hx; omega⟩
end Go.Proofs.YtefbphpgaeffaaaDoor.A

namespace Go.Proofs.YtefbphpgaeffaaaDoor.A
open Go.RowKit Go.Proofs.YtefbphpgaeffaaaDoorW.PrintWords Go.Proofs.YtefbphpgaeffaaaDoorW.PrintLast Go.Proofs.YtefbphpgaeffaaaDoorW.PrintMore
set_option linter.unusedVariables false
set_option linter.unusedSimpArgs false
/-! a text's pieces between blanks -/
def splitC : List UInt8 → List (List UInt8)
 | [] => [[]]
 | b :: r => if b = 32 then [] :: splitC r else match splitC r with
  | [] => [[b]]
  | w :: ws => (b :: w) :: ws
theorem splitC_pre : ∀ (p r : List UInt8), (∀ b ∈ p, b ≠ 32) → splitC (p ++ 32 :: r) = p :: splitC r
 | [], r, _ => by simp [splitC]
 | b :: p, r, h => by
  have ih := splitC_pre p r fun x hx => h x (List.mem_cons_of_mem _ hx)
  rw [List.cons_append, splitC, if_neg (h b List.mem_cons_self), ih]
theorem splitC_one : ∀ p : List UInt8, (∀ b ∈ p, b ≠ 32) → splitC p = [p]
 | [], _ => rfl
 | b :: p, h => by
  have ih := splitC_one p fun x hx => h x (List.mem_cons_of_mem _ hx)
  rw [splitC, if_neg (h b List.mem_cons_self), ih]
theorem join_cons2 (x y : List UInt8) (r : List (List UInt8)) : Go.Lib.join (x :: y :: r) [32] = x ++ 32 :: Go.Lib.join (y :: r) [32] := by
 rw [Go.Lib.join_cons, Go.Lib.join_cons]
 simp [Go.Lib.joinTail]
theorem split_join : ∀ ws : List (List UInt8), ws ≠ [] → (∀ w ∈ ws, ∀ b ∈ w, b ≠ 32) → splitC (Go.Lib.join ws [32]) = ws
 | [], h, _ => absurd rfl h
 | [x], _, h => by
  rw [Go.Lib.join_one]
  exact splitC_one x (h x List.mem_cons_self)
 | x :: y :: r, _, h => by
  rw [join_cons2, splitC_pre _ _ (h x List.mem_cons_self), split_join (y :: r) (by simp) fun w hw => h w (List.mem_cons_of_mem _ hw)]
theorem dig_no {x : Int} (h0 : 0 ≤ x) (h1 : x < 100) : ∀ b ∈ Go.Lib.decDigits x.toNat, b ≠ 32 := by
 have e1 : ∀ i : Fin 10, (UInt8.ofNat (48 + i.val)) ≠ 32 := by decide
 intro b hb
 by_cases c : x.toNat < 10
 · rw [Go.Lib.decDigits_one c, List.mem_singleton] at hb
   rw [hb]
   exact e1 ⟨x.toNat, c⟩
 · rw [Go.Lib.decDigits_two c (by omega)] at hb
   simp only [List.mem_cons, List.not_mem_nil, or_false] at hb
   rcases hb with hb | hb
   · rw [hb]; exact e1 ⟨x.toNat / 10, by omega⟩
   · rw [hb]; exact e1 ⟨x.toNat % 10, by omega⟩
theorem split_text {l : List Int} (hl : l ≠ []) (hx : ∀ x ∈ l, 0 ≤ x ∧ x < 100) : splitC (textL l) = l.map fun n => Go.Lib.decDigits n.toNat := by
 unfold textL
 refine split_join _ (by simpa using hl) fun w hw => ?_
 obtain ⟨x, h, rfl⟩ := List.mem_map.1 hw
 exact dig_no (hx x h).1 (hx x h).2
end Go.Proofs.YtefbphpgaeffaaaDoor.A

namespace Go.Proofs.YtefbphpgaeffaaaDoor.A
open Go.RowKit Go.Proofs.YtefbphpgaeffaaaDoorW.PrintWords Go.Proofs.YtefbphpgaeffaaaDoorW.PrintLast Go.Proofs.YtefbphpgaeffaaaDoorW.PrintMore
set_option linter.unusedVariables false
set_option linter.unusedSimpArgs false
/-! a list is read back from its text -/
def digB (b : UInt8) : Bool := decide (48 ≤ b.toNat) && decide (b.toNat ≤ 57)
def valC (w : List UInt8) : Int := w.foldl (fun a b => 10 * a + ((b.toNat : Int) - 48)) 0
def headC (w : List UInt8) : Bool := decide (w.headD 0 = 48) && decide (1 < w.length)
def readC (w : List UInt8) : Int := if 1 ≤ w.length ∧ w.length ≤ 6 then (if headC w = true then -1 else if w.all digB = true then valC w else -1) else -1
theorem read_digs : ∀ i : Fin 61, 10 ≤ i.val → readC [UInt8.ofNat (48 + i.val / 10), UInt8.ofNat (48 + i.val % 10)] = (i.val : Int) := by decide +kernel
theorem read_dig : ∀ i : Fin 10, readC [UInt8.ofNat (48 + i.val)] = (i.val : Int) := by decide +kernel
theorem read_dec {x : Int} (h0 : 0 ≤ x) (h1 : x ≤ 60) : readC (Go.Lib.decDigits x.toNat) = x := by
 by_cases c : x.toNat < 10
 · rw [Go.Lib.decDigits_one c]
   have := read_dig ⟨x.toNat, c⟩
   dsimp only at this
   rw [this]
   omega
 · rw [Go.Lib.decDigits_two c (by omega)]
   have := read_digs ⟨x.toNat, by omega⟩ (by show 10 ≤ x.toNat; omega)
   dsimp only at this
   rw [this]
   omega
theorem good_of_text {s : ByteArray} {l : List Int} (hg : goodL l = true) (h : textB l = s) : (splitC s.data.toList).map readC = l := by
 obtain ⟨h1, h2, h3⟩ := (goodL_iff _).1 hg
 have hd : s.data.toList = textL l := by
  rw [← h]
  unfold textB
  simp
 rw [hd, split_text (by intro e; rw [e] at h1; simp at h1) (fun x hx => by have := h3 x hx; omega), List.map_map]
 conv => rhs; rw [← List.map_id l]
 refine List.map_congr_left fun x hx => ?_
 exact read_dec (h3 x hx).1 (h3 x hx).2
end Go.Proofs.YtefbphpgaeffaaaDoor.A

namespace Go.Proofs.YtefbphpgaeffaaaDoor.A
open Go.RowKit Go.Proofs.YtefbphpgaeffaaaDoorW.PrintWords Go.Proofs.YtefbphpgaeffaaaDoorW.PrintLast Go.Proofs.YtefbphpgaeffaaaDoorW.PrintMore
set_option linter.unusedVariables false
set_option linter.unusedSimpArgs false
/-! what the map of LongestPath holds -/
theorem sub_lenG {α : Type} [BEq α] [LawfulBEq α] : ∀ (a b : List α), a.Nodup → (∀ x ∈ a, x ∈ b) → a.length ≤ b.length
 | [], b, _, _ => Nat.zero_le _
 | x :: a, b, hn, hs => by
  have hx : x ∈ b := hs x List.mem_cons_self
  have h1 := sub_lenG a (b.erase x) (List.nodup_cons.1 hn).2 (fun y hy => by
   have hne : y ≠ x := by
    rintro rfl
    exact (List.nodup_cons.1 hn).1 hy
   exact (List.mem_erase_of_ne hne).2 (hs y (List.mem_cons_of_mem _ hy)))
  have h2 := List.length_erase_of_mem hx
  have h3 : 0 < b.length := List.length_pos_of_mem hx
  rw [List.length_cons]
  omega
def keyT (x : List Int) : Lit := .string (textB x).data.toList
theorem keyT_lit (x : List Int) : Go.WideAt.IsKeyLit (keyT x) := True.intro
theorem keyT_inj {x y : List Int} (hx : goodL x = true) (hy : goodL y = true) (h : keyT x = keyT y) : x = y := by
 unfold keyT at h
 injection h with h
 have e : textB x = textB y := by
  apply ByteArray.ext
  exact Array.toList_inj.1 h
 rw [← good_of_text hx rfl, ← good_of_text hy rfl, e]
/-- the map D holds the longest ways of just the lists of S -/
structure KM (a b : List Int) (S : List (List Int)) (D : DataW Unit) : Prop where
 nd : S.Nodup
 sub : ∀ y ∈ S, y ∈ btwL a b
 has : ∀ y ∈ btwL a b, Go.Maps.has D (keyT y) = decide (y ∈ S)
 val : ∀ y ∈ S, D.atKey (keyT y) (.lit (.int .i64 0)) = .lit (.int .i64 (lp a y))
 none : ∀ y ∈ btwL a b, y ∉ S → D.atKey (keyT y) (.lit (.int .i64 0)) = .lit (.int .i64 0)
theorem km_start (a b : List Int) : KM a b [] (.map []) := ⟨List.nodup_nil, by simp, fun y _ => by simp [Go.Maps.has], by simp, fun y _ _ => rfl⟩
theorem km_put {a b x : List Int} {S : List (List Int)} {D : DataW Unit} (hb : betB a b = true) (h20 : b.sum ≤ 20) (hD : Go.Maps.IsMap D) (h : KM a b S D) (hx : x ∈ btwL a b) (hn : x ∉ S) : KM a b (x :: S) (D.put (keyT x) (.lit (.int .i64 (lp a x)))) := by
 have hne : ∀ y ∈ btwL a b, y ≠ x → keyT y ≠ keyT x := fun y hy e k => e (keyT_inj ((btw_mem hb h20).1 hy).1 ((btw_mem hb h20).1 hx).1 k)
 refine ⟨List.nodup_cons.2 ⟨hn, h.nd⟩, fun y hy => ?_, fun y hy => ?_, fun y hy => ?_, fun y hy hy2 => ?_⟩
 · rcases List.mem_cons.1 hy with rfl | hy
   · exact hx
   · exact h.sub y hy
 · by_cases e : y = x
   · subst e
     rw [Go.Maps.has_put_same hD (keyT_lit _)]
     simp
   · rw [Go.Maps.has_put_other (hne y hy e), h.has y hy]
     simp [e]
 · rcases List.mem_cons.1 hy with rfl | hy
   · exact Go.Maps.atKey_put_same hD (keyT_lit _) _ _
   · have e : y ≠ x := fun e => hn (e ▸ hy)
     rw [Go.Maps.atKey_put_other (hne y (h.sub y hy) e)]
     exact h.val y hy
 · have e : y ≠ x := fun e => hy2 (by rw [e]; exact List.mem_cons_self ..)
   rw [Go.Maps.atKey_put_other (hne y hy e)]
   exact h.none y hy (fun m => hy2 (List.mem_cons_of_mem _ m))
theorem km_few {a b : List Int} {S : List (List Int)} {D : DataW Unit} (hb : betB a b = true) (h20 : b.sum ≤ 20) (h : KM a b S D) : S.length ≤ 852891037441 := Nat.le_trans (sub_lenG S _ h.nd h.sub) (btw_head hb h20).1
end Go.Proofs.YtefbphpgaeffaaaDoor.A

/- Words on the map of LongestPath and on the boxes that its closure bears. -/
namespace Go.Proofs.YtefbphpgaeffaaaDoor.A
open Go.RowKit Go.Proofs.YtefbphpgaeffaaaDoorW.PrintWords Go.Proofs.YtefbphpgaeffaaaDoorW.PrintLast Go.Proofs.YtefbphpgaeffaaaDoorW.PrintMore
attribute [local go_sem] max2_int min2_int max_two min_two max_three min_three max_four min_four
set_option linter.unusedVariables false
set_option linter.unusedSimpArgs false

theorem lw_bx {W W' : World} {B : Nat} {v : Value} (hb : Below W.heap.size W W') (h : W.cell? ⟨B, 0, none⟩ = some v) : W'.cell? ⟨B, 0, none⟩ = some v := (hb.cell (p := ⟨B, 0, none⟩) (World.block_lt_of_cell? W _ h)).trans h
theorem lw_keep {W W' : World} {g B : Nat} {v : Value} (h : KeepBut W W' g none) (hc : W.cell? ⟨B, 0, none⟩ = some v) (hB : B ≠ g) : W'.cell? ⟨B, 0, none⟩ = some v := by
 have hlt := World.block_lt_of_cell? W _ hc
 have := h.2 B hlt hB (by simp)
 unfold World.cell? at hc ⊢
 simp only at hc ⊢
 rw [this]
 exact hc
theorem lw_row {w0 : World} {g : Nat} {A0 : Option Addr} {l0 : List (List Int)} (hT : ∀ W', KeepBut w0 W' g none → Kd.C (Kd.slice 3 (Kd.int .i64)) W' A0 l0.length l0) (i : Int) (h0 : 0 ≤ i) (h1 : i < (l0.length : Int)) :
 ∃ ad Ar cr, A0 = some ad ∧ (rd_L1 l0 i).length ≤ cr ∧ ∀ W', KeepBut w0 W' g none → W'.cell? (ad.add i.toNat) = some (.slice Ar (rd_L1 l0 i).length cr) ∧ Kd.C (Kd.int .i64) W' Ar (rd_L1 l0 i).length (rd_L1 l0 i) := by
 obtain ⟨ad, Ar, cr, rfl, hx, hl, hi⟩ := at_L1 (hT w0 (KeepBut.refl w0 g none)) i h0 h1
 refine ⟨ad, Ar, cr, rfl, hl, fun W' hk => ?_⟩
 have hne : ad.block ≠ g := Kd.foot_ne hT (by omega) (by decide)
 have hc : W'.cell? (ad.add i.toNat) = some (.slice Ar (rd_L1 l0 i).length cr) := keep_cell hk hx (by rw [add_block]; exact hne)
 refine ⟨hc, ?_⟩
 obtain ⟨ad', Ar', cr', e, hx', hl', hi'⟩ := at_L1 (hT W' hk) i h0 h1
 injection e with e
 subst e
 rw [hc] at hx'
 injection hx' with hx'
 injection hx' with e1 e2 e3
 subst e1
 exact hi'
/-- block M of W is the map, and holds the longest ways of just the lists of S -/
def LI (a b : List Int) (M : Nat) (S : List (List Int)) (W : World) : Prop := ∃ D : DataW Unit, KM a b S D ∧ W.ownsMap Tryd.prog 9 (plainElem Tryd.prog 3) M S.length D
theorem li_kept {a b : List Int} {M g : Nat} {S : List (List Int)} {W W' : World} (h : LI a b M S W) (hg : GB W W' g) (hne : M ≠ g) : LI a b M S W' := by
 obtain ⟨D, hk, ho⟩ := h
 exact ⟨D, hk, ho.kept hg (by intro e; injection e with e; exact hne e)⟩
theorem li_below {a b : List Int} {M : Nat} {S : List (List Int)} {W W' : World} (h : LI a b M S W) (hb : Below W.heap.size W W') : LI a b M S W' := li_kept h (gb_below (g := M + 1) hb) (by omega)
theorem li_key (x : List Int) (hx : goodL x = true) : keyOf Tryd.prog 9 (.string (textB x)) = some (keyT x) := by
 have h := good_few hx
 refine Go.WideMaps.keyOf_string_mk Tryd.underlying9 ?_
 have := textL_len (l := x) (by omega) h.2
 unfold textB
 rw [ba_size]
 unfold maxLen
 omega
theorem li_look {a b : List Int} {M : Nat} {S : List (List Int)} {W : World} {x : List Int} (hb : betB a b = true) (h20 : b.sum ≤ 20) (h : LI a b M S W) (hx : x ∈ btwL a b) (W' : World) (hW : Below W.heap.size W W') : (Instr.lookup 29 (.map (some M)) (.string (textB x)) true).run Tryd.prog W' = .ok (.tuple #[.int .i64 (if x ∈ S then lp a x else 0), .bool (decide (x ∈ S))]) W' := by
 obtain ⟨D, hk, ho⟩ := li_below h hW
 have hz : (zeroValue 3).run Tryd.prog W' = .ok (.int .i64 0) W' := by kernel_rfl
 obtain ⟨v, ps, hrun, hv⟩ := ho.look_ok (Go.Maps.string_keyed Tryd.underlying9) (t := 29) Tryd.underlying29 hz (plainElem_int (H := Unit) Tryd.underlying3 (WalkArith.wf_i64 (by omega))) (li_key x ((btw_mem hb h20).1 hx).1)
 obtain ⟨c, rfl, hc, _⟩ := plainElem_int_inv Tryd.underlying3 hv
 have hat := congrArg Prod.fst hc
 rw [hrun, hk.has x hx]
 dsimp only at hat
 by_cases m : x ∈ S
 · rw [hk.val x m] at hat
   injection hat with hat
   injection hat with _ hat
   rw [if_pos m, hat]
 · rw [hk.none x hx m] at hat
   injection hat with hat
   injection hat with _ hat
   rw [if_neg m, hat]
theorem li_put {a b : List Int} {M : Nat} {S : List (List Int)} {W : World} {x : List Int} (hb : betB a b = true) (h20 : b.sum ≤ 20) (h : LI a b M S W) (hx : x ∈ btwL a b) (hn : x ∉ S) (W' : World) (hW : Below W.heap.size W W') : ∃ W2, (Instr.mapUpdate 29 (.map (some M)) (.string (textB x)) (.int .i64 (lp a x))).run Tryd.prog W' = .ok () W2 ∧ LI a b M (x :: S) W2 ∧ GB W' W2 M := by
 obtain ⟨D, hk, ho⟩ := li_below h hW
 have hg := ((btw_mem hb h20).1 hx).1
 have h0 := lp_nn (a := a) hg
 have h1 := lp_le (a := a) hg
 have hfew := km_few hb h20 hk
 obtain ⟨W2, hrun, ho2, hg2⟩ := ho.update (Go.Maps.string_keyed Tryd.underlying9) (t := 29) Tryd.underlying29 (by unfold maxLen; omega) (li_key x hg) (plainElem_int (H := Unit) Tryd.underlying3 (a := lp a x) (WalkArith.wf_i64 (by omega)))
 exact ⟨W2, hrun, ⟨_, km_put hb h20 ho.isMap hk hx hn, ho2⟩, hg2⟩
end Go.Proofs.YtefbphpgaeffaaaDoor.A

namespace Go.Proofs.YtefbphpgaeffaaaDoor.A
open Go.RowKit Go.Proofs.YtefbphpgaeffaaaDoorW.PrintWords Go.Proofs.YtefbphpgaeffaaaDoorW.PrintLast Go.Proofs.YtefbphpgaeffaaaDoorW.PrintMore
set_option linter.unusedVariables false
set_option linter.unusedSimpArgs false
/-! the table of longest ways, as it is filled from its end -/
structure WY (a : List Int) (L : List (List Int)) (m : Nat) (ws : List Int) : Prop where
 len : ws.length = L.length
 hi : ∀ q (h : q < L.length), m ≤ q → rd ws (q : Int) = lp a L[q]
 lo : ∀ q : Nat, q < m → rd ws (q : Int) = 0
structure WZ (ws ws3 : List Int) (k : Nat) (v : Int) : Prop where
 len : ws3.length = ws.length
 here : rd ws3 (k : Int) = v
 oth : ∀ q : Nat, q ≠ k → rd ws3 (q : Int) = rd ws (q : Int)
theorem WZ.refl {ws : List Int} {k : Nat} {v : Int} (h : rd ws (k : Int) = v) : WZ ws ws k v := ⟨rfl, h, fun _ _ => rfl⟩
theorem WZ.put {ws ws3 : List Int} {k : Nat} {v : Int} (h : WZ ws ws3 k v) (hk : k < ws.length) (u : Int) : WZ ws (ws3.set k u) k u := by
 have hl := h.len
 refine ⟨by rw [List.length_set, hl], ?_, fun q hq => ?_⟩
 · rw [rdn (show k < (ws3.set k u).length by rw [List.length_set]; omega), List.getElem_set_self]
 · rw [← h.oth q hq]
   unfold rd
   rw [Int.toNat_natCast, List.getD_eq_getElem?_getD, List.getElem?_set_ne (by omega), List.getD_eq_getElem?_getD]
theorem WY.start (a : List Int) (L : List (List Int)) : WY a L L.length (List.replicate L.length 0) := by
 refine ⟨by simp, fun q h1 h2 => by omega, fun q h => ?_⟩
 rw [rdn (show q < (List.replicate L.length (0 : Int)).length by simpa using h)]
 simp
theorem WY.step {a : List Int} {L : List (List Int)} {k : Nat} {ws ws3 : List Int} (h : WY a L (k + 1) ws) (hk : k < L.length) (z : WZ ws ws3 k (lp a L[k])) : WY a L k ws3 := by
 refine ⟨by rw [z.len, h.len], fun q h1 h2 => ?_, fun q h1 => ?_⟩
 · by_cases e : q = k
   · subst e
     exact z.here
   · rw [z.oth q e]
     exact h.hi q h1 (by omega)
 · rw [z.oth q (by omega)]
   exact h.lo q (by omega)
theorem way_zero (a : List Int) (v : Int) (y : List Int) (R : List (List Int)) : wayF a (R.take 0) v y = v := by
 unfold wayF
 simp
theorem way_take {a : List Int} {R : List (List Int)} {m : Nat} (hm : m < R.length) (v : Int) (y : List Int) : wayF a (R.take (m + 1)) v y = if R[m] = y then max (wayF a (R.take m) v y) (lp a y + 1) else wayF a (R.take m) v y := by
 unfold wayF
 rw [List.take_add_one, List.getElem?_eq_getElem hm, Option.toList_some]
 by_cases c : R[m] = y
 · rw [if_pos c, if_pos (by rw [List.mem_append]; right; simp [c])]
   split <;> omega
 · rw [if_neg c]
   by_cases d : y ∈ R.take m
   · rw [if_pos d, if_pos (List.mem_append_left _ d)]
   · rw [if_neg d, if_neg (by
      rw [List.mem_append]
      rintro (h | h)
      · exact d h
      · exact c (List.mem_singleton.1 h).symm)]
theorem way_snoc {a : List Int} {R ys : List (List Int)} {i : Nat} (hi : i < ys.length) (v : Int) : (ys.take (i + 1)).foldl (wayF a R) v = wayF a R ((ys.take i).foldl (wayF a R) v) ys[i] := by
 rw [List.take_add_one, List.getElem?_eq_getElem hi, Option.toList_some, List.foldl_append]
 rfl
theorem filt_snoc {p : List Int → Bool} {U : List (List Int)} {j : Nat} (hj : j < U.length) : (U.take (j + 1)).filter p = if p U[j] = true then (U.take j).filter p ++ [U[j]] else (U.take j).filter p := by
 rw [List.take_add_one, List.getElem?_eq_getElem hj, Option.toList_some, List.filter_append]
 by_cases c : p U[j] = true
 · rw [if_pos c]
   simp [c]
 · rw [if_neg c]
   simp [c]
end Go.Proofs.YtefbphpgaeffaaaDoor.A

namespace Go.Proofs.YtefbphpgaeffaaaDoor.A
open Go.RowKit Go.Proofs.YtefbphpgaeffaaaDoorW.PrintWords Go.Proofs.YtefbphpgaeffaaaDoorW.PrintLast Go.Proofs.YtefbphpgaeffaaaDoorW.PrintMore
set_option linter.unusedVariables false
set_option linter.unusedSimpArgs false
end Go.Proofs.YtefbphpgaeffaaaDoor.A

namespace Go.Proofs.YtefbphpgaeffaaaDoor.A
open Go.RowKit Go.Proofs.YtefbphpgaeffaaaDoorW.PrintWords Go.Proofs.YtefbphpgaeffaaaDoorW.PrintLast Go.Proofs.YtefbphpgaeffaaaDoorW.PrintMore
set_option linter.unusedVariables false
set_option linter.unusedSimpArgs false
theorem rd_L1n {xs : List (List Int)} {i : Nat} (h : i < xs.length) : rd_L1 xs (i : Int) = xs[i] := by
 unfold rd_L1
 rw [Int.toNat_natCast, List.getD_eq_getElem?_getD, List.getElem?_eq_getElem h]
 rfl
end Go.Proofs.YtefbphpgaeffaaaDoor.A

namespace Go.Proofs.YtefbphpgaeffaaaDoor.A
open Go.RowKit Go.Proofs.YtefbphpgaeffaaaDoorW.PrintWords Go.Proofs.YtefbphpgaeffaaaDoorW.PrintLast Go.Proofs.YtefbphpgaeffaaaDoorW.PrintMore
set_option linter.unusedVariables false
set_option linter.unusedSimpArgs false
/-! BelowOf -/
theorem specUnder_l (a : List Int) (ha : Sm a) (L : List (List Int)) (hL : ∀ x ∈ L, Sm x) (hl : L.length ≤ 1000000000000) : ∀ (d i : Nat) (acc : List (List Int)), i + d = L.length → acc.length + d ≤ 1000000000000 → Ev (fun k => spec_liUnder.l0 k a acc L (L.length : Int) (i : Int)) (acc ++ (L.drop i).filter fun x => majB x a)
 | 0, i, acc, e, hb => by
  refine Ev.succ ?_
  simp only [spec_liUnder.l0, if_neg (show ¬ (i : Int) < (L.length : Int) by omega)]
  rw [List.drop_eq_nil_of_le (by omega), List.filter_nil, List.append_nil]
  exact Ev.now _
 | d + 1, i, acc, e, hb => by
  have hi : i < L.length := by omega
  refine Ev.succ ?_
  simp only [spec_liUnder.l0, if_pos (show (i : Int) < (L.length : Int) by omega), if_pos (show (0 : Int) ≤ (i : Int) by omega), rd_L1n hi, wsucc hi (by omega)]
  rw [List.drop_eq_getElem_cons hi, List.filter_cons]
  refine Ev.bind (liBelow_ev L[i] a (hL _ (List.getElem_mem hi)) ha) ?_
  cases c : majB L[i] a with
  | true =>
   simp only [if_true, if_pos (show acc.length < 5864062014805 by omega)]
   have := specUnder_l a ha L hL hl d (i + 1) (acc ++ [L[i]]) (by omega) (by rw [List.length_append, List.length_singleton]; omega)
   rw [List.append_assoc] at this
   exact this
  | false =>
   simp only [Bool.false_eq_true, if_false]
   exact specUnder_l a ha L hL hl d (i + 1) acc (by omega) (by omega)
theorem specUnder_ev (a : List Int) (hg : goodL a = true) (h30 : a.sum ≤ 30) : Ev (fun k => spec_liUnder.f k a) (undL a) := by
 have hs := good_sm hg
 have hl := good_len hg
 have h0 := gsum0 hg
 unfold spec_liUnder.f
 have hm := allL_most a.length a.sum 60 a.sum (by omega) (Int.le_refl _)
 have hb := allL_bd hl.2 (m := a.sum) h30 h0
 refine Ev.bind (liSum_ev a hs) (Ev.bind (specAll_ev a.length hl.2 a.sum 60 h30 h0 (by omega)) ?_)
 rw [hm]
 have := specUnder_l a hs (allL a.length a.sum a.sum) (fun x hx => all_sm hg h30 hx) (by omega) (allL a.length a.sum a.sum).length 0 [] (by omega) (by simp; omega)
 rw [List.drop_zero, List.nil_append] at this
 exact this
end Go.Proofs.YtefbphpgaeffaaaDoor.A

namespace Go.Proofs.YtefbphpgaeffaaaDoor.A
open Go.RowKit Go.Proofs.YtefbphpgaeffaaaDoorW.PrintWords Go.Proofs.YtefbphpgaeffaaaDoorW.PrintLast Go.Proofs.YtefbphpgaeffaaaDoorW.PrintMore
set_option linter.unusedVariables false
set_option linter.unusedSimpArgs false
theorem l1Same_l (xs ys : List Int) (hx : xs.length ≤ 9223372036854775807) (hl : xs.length = ys.length) : ∀ (n i : Nat), i + n = xs.length → Ev (fun k => spec_l1Same.l0 k xs ys (xs.length : Int) (i : Int)) (decide (xs.drop i = ys.drop i))
 | 0, i, h => by
  refine Ev.succ ?_
  simp only [spec_l1Same.l0, if_neg (show ¬ (i : Int) < (xs.length : Int) by omega)]
  rw [List.drop_eq_nil_of_le (by omega), List.drop_eq_nil_of_le (by omega)]
  exact Ev.now _
 | n + 1, i, h => by
  have hi : i < xs.length := by omega
  have hj : i < ys.length := by omega
  refine Ev.succ ?_
  simp only [spec_l1Same.l0, if_pos (show (i : Int) < (xs.length : Int) by omega), if_pos (show (i : Int) < (ys.length : Int) by omega), if_pos (show (0 : Int) ≤ (i : Int) by omega), rdn hi, rdn hj, wsucc hi hx]
  rw [List.drop_eq_getElem_cons hi, List.drop_eq_getElem_cons hj]
  by_cases c : xs[i] = ys[i]
  · simp only [c, if_true, List.cons.injEq, true_and]
    exact l1Same_l xs ys hx hl n (i + 1) (by omega)
  · simp only [c, if_false, List.cons.injEq, false_and, decide_false]
    exact Ev.now _
theorem l1Same_ev (xs ys : List Int) (hx : xs.length ≤ 9223372036854775807) : Ev (fun k => spec_l1Same.f k xs ys) (decide (xs = ys)) := by
 unfold spec_l1Same.f
 by_cases h : xs.length = ys.length
 · simp only [if_pos (show (xs.length : Int) = (ys.length : Int) by omega)]
   exact l1Same_l xs ys hx h xs.length 0 (by omega)
 · simp only [if_neg (show ¬ (xs.length : Int) = (ys.length : Int) by omega)]
   rw [decide_eq_false (fun e => h (by rw [e]))]
   exact Ev.now _
end Go.Proofs.YtefbphpgaeffaaaDoor.A

/- spec.giLongest: the lists between two, from the greatest one down, their longest ways told from the end on. -/
namespace Go.Proofs.YtefbphpgaeffaaaDoor.A
open Go.RowKit Go.Proofs.YtefbphpgaeffaaaDoorW.PrintWords Go.Proofs.YtefbphpgaeffaaaDoorW.PrintLast Go.Proofs.YtefbphpgaeffaaaDoorW.PrintMore
attribute [local go_sem] max2_int min2_int max_two min_two max_three min_three max_four min_four
set_option linter.unusedVariables false
set_option linter.unusedSimpArgs false

def spec_giLongest.f (l0 : List Int) (l1 : List Int) : Option Int := if betB l0 l1 = true then (if l1.sum ≤ 20 then some (lp l0 (descL l1)) else none) else none
set_option maxHeartbeats 8000000 in
set_option maxRecDepth 100000 in
theorem spec_giLongest.calls (A0 : Option Addr) (c0 : Nat) (l0 : List Int) (A1 : Option Addr) (c1 : Nat) (l1 : List Int) (r : Int) (w : World) (hr0 : Kd.C (Kd.int .i64) w A0 l0.length l0) (hc0 : l0.length ≤ c0) (hr1 : Kd.C (Kd.int .i64) w A1 l1.length l1) (hc1 : l1.length ≤ c1) (h : spec_giLongest.f l0 l1 = some r) :
 Calls Tryd.prog 10 #[.slice A0 l0.length c0, .slice A1 l1.length c1] w fun e w' => e = .returned (.int .i64 r) ∧ Below w.heap.size w w' := by
 unfold spec_giLongest.f at h
 split at h
 next hb =>
  split at h
  next h20 =>
   obtain rfl := Option.some.inj h
   have g0 := ((betB_iff l0 l1).1 hb).1
   have g1 := ((betB_iff l0 l1).1 hb).2.1
   obtain ⟨ku, hku⟩ := Ev.get (specUnder_ev l1 g1 (by omega))
   have hub := und_bd l1 g1 (by omega)
   have hug := fun (x : List Int) (hx : x ∈ undL l1) => und_good g1 (show l1.sum ≤ 30 by omega) hx
   have hmx : l0.length ≤ 8 := ((goodL_iff l0).1 g0).2.1
   obtain ⟨U, hU⟩ : ∃ U, U = undL l1 := ⟨_, rfl⟩
   have hbt : btwL l0 l1 = U.filter (majB l0) := by rw [hU]; rfl
   rw [← hU] at hku hub hug
   have HKU := Aside0.mk hku
   have HUB := Aside0.mk hub
   have HUG := Aside0.mk hug
   have HBT := Aside0.mk hbt
   have HBB := Aside0.mk hb
   have H20 := Aside0.mk h20
   have HG0 := Aside0.mk g0
   have HR0 := Aside0.mk hr0
   have HC0 := Aside0.mk hc0
   have HR1 := Aside0.mk hr1
   have HC1 := Aside0.mk hc1
   have HB := Aside0.mk (Below.refl w.heap.size w)
   clear hr0 hr1 hc0 hc1 h hku hub hug hbt hb h20 g0 g1 hU hmx
   go_enter Tryd.func10, Tryd.ntmps10
   go_wp2_with ((with_reducible refine gate_callee (f := 19) rfl ?_); refine goesL_ (some 14) rfl rfl Tryd.func19 (by kernel_rfl) rfl #[.slice A1 l1.length c1] rfl (by (try simp only [List.map_toArray, List.map_cons, List.map_nil]); first | done | rfl | (simp only [List.length_drop, List.length_take]; rfl)) ?_; (refine (spec_liUnder.calls ku A1 c1 l1 U _ ?side1 ?side2 HKU.out).mono ?_); (case side1 => exact HR1.out); (case side2 => exact HC1.out); rintro e w4 ⟨v14, rfl, ho0, hb⟩; refine ⟨_, rfl, ?_⟩; have n0_ := Aside0.mk (Kd.N_lower (Kd.N_mono (ok' := fun k_ => w.heap.size ≤ k_) ho0 (fun k_ hk_ => (Nat.le_trans (below_size (by repeat (first | (with_reducible first | exact HB.out | apply below_alloc | apply pw_below_drewN | apply below_drew1) | exact HB.out))) hk_))) (below_size (by repeat (first | (with_reducible first | exact HB.out | apply below_alloc | apply pw_below_drewN | apply below_drew1) | exact HB.out)))); have n1_ := Aside0.mk (below_step (by repeat (first | (with_reducible first | exact HB.out | apply below_alloc | apply pw_below_drewN | apply below_drew1) | exact HB.out)) hb); clear HB; have HO10 := n0_; have HB := n1_; clear n0_ n1_ hb ho0; obtain ⟨Au, cu, eo5⟩ := Kd.N_slice HO10.out; subst eo5)
   go_loopg [5, 16] U.length (fun gg v5 v16 w' => ∃ (j : Nat), v16 = .int .i64 (j : Int) ∧ j ≤ U.length ∧ U.length - j ≤ gg ∧ Aside0 (Kd.N (Kd.slice 3 (Kd.int .i64)) 22 w' w.heap.size (fun k_ => (w.heap.size ≤ k_) ∧ some k_ ≠ ((.slice Au U.length cu) : Value).ownBlock) v5 ((U.take j).filter (majB l0))) ∧ Aside0 (Kd.N (Kd.slice 3 (Kd.int .i64)) 22 w' w.heap.size (fun k_ => (w.heap.size ≤ k_) ∧ some k_ ≠ (v5 : Value).ownBlock) (.slice Au U.length cu) U) ∧ Aside0 (Below w.heap.size w w'))
   case atStart => exact ⟨0, rfl, Nat.zero_le _, by omega, ⟨by first | exact Kd.N_nil _ _ _ _ _⟩, ⟨by (with_reducible repeat (first | apply Kd.N_alloc | apply Kd.N_drewN | apply Kd.N_drew)); exact Kd.N_mono HO10.out (fun _ hk => ⟨hk, (by simp [Value.ownBlock])⟩)⟩, ⟨(by repeat (first | (with_reducible first | exact HB.out | apply below_alloc | apply pw_below_drewN | apply below_drew1) | exact HB.out))⟩⟩
   case round =>
    obtain ⟨j, rfl, hj, hg', HO_3, HO_10, HB⟩ := hrel
    have hubl := HUB.out
    by_cases hlt : j < U.length
    · have c0b : decide ((j : Int) < (U.length : Int)) = true := decide_eq_true (by omega)
      have q0 : (0 ≤ (j : Int)) = True := eq_true (by omega)
      have q1 : ((j : Int) < (U.length : Int)) = True := eq_true (by omega)
      obtain ⟨ad200, A200_0, c200_0, e200, hx200_0, hl200_0, hi200_0⟩ := at_L1 (Kd.N_reads' HO_10.out).2.2 (j : Int) (by omega) (by omega)
      cases e200
      obtain ⟨ce200, hce200, hMe200, hcc200⟩ := Kd.N_get HO_10.out [] (j : Int) (by omega) (by omega)
      obtain ⟨ua200_0, uc200_0, rfl, ul200_0, ge200_0⟩ := Kd.FK_slice_open hMe200
      have hv200_0 := hcc200 0 _ rfl
      rw [Nat.add_zero, show ((Kd.slice 3 (Kd.int .i64))).sz = 1 from rfl, Nat.mul_one] at hv200_0
      replace hv200_0 := Option.some.inj (hv200_0.symm.trans hx200_0)
      injection hv200_0 with hva_ hvn_ hvc_
      rw [hva_] at ge200_0
      rw [hvc_] at ul200_0
      have HL200_0 := Aside0.mk (show Kd.V (Kd.int .i64) 3 _ w.heap.size _ _ (rd_L1 U (j : Int)) from Kd.V_mk ul200_0 ge200_0)
      clear hva_ hvn_ hvc_ ge200_0 ul200_0
      clear hcc200 hce200
      rw [Int.toNat_natCast] at hx200_0
      have HR200_0 := Aside0.mk hi200_0
      have HC200_0 := Aside0.mk hl200_0
      clear hi200_0 hl200_0
      have hz : rd_L1 U (j : Int) = U[j] := rd_L1n hlt
      have hsn := filt_snoc (p := majB l0) hlt
      obtain ⟨_, hsm, _, _, _⟩ := HUG.out _ (List.getElem_mem hlt)
      obtain ⟨kl, hkl⟩ := Ev.get (liBelow_ev l0 U[j] (good_sm HG0.out) hsm)
      rw [← hz] at hsn hkl
      have hfl : ((U.take j).filter (majB l0)).length ≤ 852891037441 := Nat.le_trans (List.length_filter_le _ _) (by rw [List.length_take]; have := HUB.out; omega)
      have LMc11 := Aside0.mk hfl
      have A9 := Aside0.mk hkl
      clear hkl hsm hz hfl
      by_cases cm : majB l0 (rd_L1 U (j : Int)) = true
      · rw [if_pos cm] at hsn
        rw [cm] at A9
        obtain ⟨y202, hy202⟩ : ∃ y_ : List (List Int), y_ = ((U.take j).filter (majB l0) ++ [rd_L1 U (j : Int)]) := ⟨_, rfl⟩
        rw [← hy202] at hsn
        have Ny202 := Aside0.mk hy202
        have HSN := Aside0.mk hsn
        clear hy202 hsn cm
        go_wp2_with (first | ((with_reducible refine gate_callee (f := 18) rfl ?_); refine goesL_ (some 22) rfl rfl Tryd.func18 (by kernel_rfl) rfl #[.slice A0 l0.length c0, .slice A200_0 (rd_L1 U (j : Int)).length c200_0] rfl (by (try simp only [List.map_toArray, List.map_cons, List.map_nil]); first | done | rfl | (simp only [List.length_drop, List.length_take]; rfl)) ?_; (with_reducible refine (spec_liBelow.calls kl _ _ l0 _ _ (rd_L1 U (j : Int)) true _ ?side1 ?side2 ?side3 ?side4 A9.out).mono ?_); (case side1 => repeat (first | exact (Kd.C_below HR0.out HB.out) | (with_reducible refine Kd.C_alloc ?_ _) | (with_reducible refine Kd.C_drewN ?_ _) | (with_reducible refine Kd.C_drew ?_))); (case side2 => exact HC0.out); (case side3 => repeat (first | exact (by repeat (first | (with_reducible exact HR200_0.out) | (with_reducible refine Kd.C_alloc ?_ _) | (with_reducible refine Kd.C_drewN ?_ _) | (with_reducible refine Kd.C_drew ?_) | exact HR200_0.out)) | (with_reducible refine Kd.C_alloc ?_ _) | (with_reducible refine Kd.C_drewN ?_ _) | (with_reducible refine Kd.C_drew ?_))); (case side4 => exact HC200_0.out); rintro e w12 ⟨rfl, hb⟩; refine ⟨_, rfl, ?_⟩; have n0_ := Aside0.mk (Kd.N_below (by (with_reducible repeat (first | apply Kd.N_alloc | apply Kd.N_drewN | apply Kd.N_drew)); exact HO_3.out) hb); have n1_ := Aside0.mk (Kd.N_below (by (with_reducible repeat (first | apply Kd.N_alloc | apply Kd.N_drewN | apply Kd.N_drew)); exact HO_10.out) hb); have n2_ := Aside0.mk (Kd.V_below (by (with_reducible repeat (first | apply Kd.V_alloc | apply Kd.V_drewN | apply Kd.V_drew)); exact HL200_0.out) hb); have n3_ := Aside0.mk (Kd.C_below (by repeat (first | (with_reducible exact HR200_0.out) | (with_reducible refine Kd.C_alloc ?_ _) | (with_reducible refine Kd.C_drewN ?_ _) | (with_reducible refine Kd.C_drew ?_) | exact HR200_0.out)) hb); have n4_ := Aside0.mk (below_step (by repeat (first | (with_reducible first | exact HB.out | apply below_alloc | apply pw_below_drewN | apply below_drew1) | exact HB.out)) hb); clear HO_3; clear HO_10; clear HL200_0; clear HR200_0; clear HB; have HO_3 := n0_; have HO_10 := n1_; have HL200_0 := n2_; have HR200_0 := n3_; have HB := n4_; clear n0_ n1_ n2_ n3_ n4_; (try clear hb)) | ((with_reducible refine gate_builtin (b := .append) (xs := #[.tmp 23, .tmp 25]) rfl ?_); at_builtin; refine Kd.N_append (Kd.slice 3 (Kd.int .i64)) (w0 := w) w.heap.size rfl (.tmp 23) (.tmp 25) 31 22 (.slice none 0 0) 24 rfl Tryd.underlying31 info22 rfl (by decide) (by omega) u5 ((U.take j).filter (majB l0)) (rd_L1 U (j : Int)) [.slice A200_0 (rd_L1 U (j : Int)).length c200_0] (fun k_ => (w.heap.size ≤ k_) ∧ some k_ ≠ (.slice (some ad200) U.length cu : Value).ownBlock) (fun k_ => ((fun k_ => (w.heap.size ≤ k_) ∧ some k_ ≠ (.slice (some ad200) U.length cu : Value).ownBlock)) k_ ∧ some k_ ≠ (u5 : Value).ownBlock) rfl rfl ?aP (fun _ hk => hk) ?aF ?aO ?aB ?aS ?aL ?_; (case aP => exact (Kd.FK_slice_mk (Kd.V_reads' (Kd.V_mono (ok' := (fun k_ => ((fun k_ => (w.heap.size ≤ k_) ∧ some k_ ≠ (.slice (some ad200) U.length cu : Value).ownBlock)) k_ ∧ some k_ ≠ (u5 : Value).ownBlock)) (HL200_0.out) (fun k_ hk => ⟨⟨hk.1.1, hk.2⟩, hk.1.2⟩))).2.1 (Kd.V_F (Kd.V_mono (ok' := (fun k_ => ((fun k_ => (w.heap.size ≤ k_) ∧ some k_ ≠ (.slice (some ad200) U.length cu : Value).ownBlock)) k_ ∧ some k_ ≠ (u5 : Value).ownBlock)) (HL200_0.out) (fun k_ hk => ⟨⟨hk.1.1, hk.2⟩, hk.1.2⟩))))); (case aB => exact (by repeat (first | (with_reducible first | exact HB.out | apply below_alloc | apply pw_below_drewN | apply below_drew1) | exact HB.out))); (case aF => exact (fun k_ hk => ⟨(Nat.le_trans (below_size (by repeat (first | (with_reducible first | exact HB.out | apply below_alloc | apply pw_below_drewN | apply below_drew1) | exact HB.out))) hk), Kd.fresh' (Kd.N_lt (by (with_reducible repeat (first | apply Kd.N_alloc | apply Kd.N_drewN | apply Kd.N_drew)); exact HO_10.out)) k_ hk⟩)); (case aO => exact (by (with_reducible repeat (first | apply Kd.N_alloc | apply Kd.N_drewN | apply Kd.N_drew)); exact HO_3.out)); (case aS => exact (below_size (by repeat (first | (with_reducible first | exact HB.out | apply below_alloc | apply pw_below_drewN | apply below_drew1) | exact HB.out)))); (case aL => have := LMc11.out; omega); intro v203 w13 ho hb hg hat; rw [← Ny202.out] at ho; have n0_ := Aside0.mk (Kd.N_afterv (ok := (fun k_ => (w.heap.size ≤ k_))) (by (with_reducible repeat (first | apply Kd.N_alloc | apply Kd.N_drewN | apply Kd.N_drew)); exact HO_10.out) hg hat); have n2_ := Aside0.mk (hb); have n3_ := Aside0.mk (ho); clear HO_10; clear HL200_0; clear HB; clear HO_3; have HO_10 := n0_; have HB := n2_; have HO204 := n3_; clear n0_ n2_ n3_; clear ho hb hg hat))
        go_roundg (U.length - (j + 1))
        case measure => omega
        case rel => exact ⟨j + 1, by go_num, by omega, by omega, ⟨by rw [HSN.out]; (with_reducible repeat (first | apply Kd.N_alloc | apply Kd.N_drewN | apply Kd.N_drew)); exact HO204.out⟩, ⟨by (with_reducible repeat (first | apply Kd.N_alloc | apply Kd.N_drewN | apply Kd.N_drew)); exact HO_10.out⟩, ⟨(by repeat (first | (with_reducible first | exact HB.out | apply below_alloc | apply pw_below_drewN | apply below_drew1) | exact HB.out))⟩⟩
      · rw [if_neg cm] at hsn
        rw [Bool.eq_false_iff.2 cm] at A9
        have HSN := Aside0.mk hsn
        clear hsn cm
        go_wp2_with ((with_reducible refine gate_callee (f := 18) rfl ?_); refine goesL_ (some 22) rfl rfl Tryd.func18 (by kernel_rfl) rfl #[.slice A0 l0.length c0, .slice A200_0 (rd_L1 U (j : Int)).length c200_0] rfl (by (try simp only [List.map_toArray, List.map_cons, List.map_nil]); first | done | rfl | (simp only [List.length_drop, List.length_take]; rfl)) ?_; (with_reducible refine (spec_liBelow.calls kl _ _ l0 _ _ (rd_L1 U (j : Int)) false _ ?side1 ?side2 ?side3 ?side4 A9.out).mono ?_); (case side1 => repeat (first | exact (Kd.C_below HR0.out HB.out) | (with_reducible refine Kd.C_alloc ?_ _) | (with_reducible refine Kd.C_drewN ?_ _) | (with_reducible refine Kd.C_drew ?_))); (case side2 => exact HC0.out); (case side3 => repeat (first | exact (by repeat (first | (with_reducible exact HR200_0.out) | (with_reducible refine Kd.C_alloc ?_ _) | (with_reducible refine Kd.C_drewN ?_ _) | (with_reducible refine Kd.C_drew ?_) | exact HR200_0.out)) | (with_reducible refine Kd.C_alloc ?_ _) | (with_reducible refine Kd.C_drewN ?_ _) | (with_reducible refine Kd.C_drew ?_))); (case side4 => exact HC200_0.out); rintro e w12 ⟨rfl, hb⟩; refine ⟨_, rfl, ?_⟩; have n0_ := Aside0.mk (Kd.N_below (by (with_reducible repeat (first | apply Kd.N_alloc | apply Kd.N_drewN | apply Kd.N_drew)); exact HO_3.out) hb); have n1_ := Aside0.mk (Kd.N_below (by (with_reducible repeat (first | apply Kd.N_alloc | apply Kd.N_drewN | apply Kd.N_drew)); exact HO_10.out) hb); have n4_ := Aside0.mk (below_step (by repeat (first | (with_reducible first | exact HB.out | apply below_alloc | apply pw_below_drewN | apply below_drew1) | exact HB.out)) hb); clear HO_3; clear HO_10; clear HL200_0; clear HR200_0; clear HB; have HO_3 := n0_; have HO_10 := n1_; have HB := n4_; clear n0_ n1_ n4_; (try clear hb))
        go_roundg (U.length - (j + 1))
        case measure => omega
        case rel => exact ⟨j + 1, by go_num, by omega, by omega, ⟨by rw [HSN.out]; (with_reducible repeat (first | apply Kd.N_alloc | apply Kd.N_drewN | apply Kd.N_drew)); exact HO_3.out⟩, ⟨by (with_reducible repeat (first | apply Kd.N_alloc | apply Kd.N_drewN | apply Kd.N_drew)); exact HO_10.out⟩, ⟨(by repeat (first | (with_reducible first | exact HB.out | apply below_alloc | apply pw_below_drewN | apply below_drew1) | exact HB.out))⟩⟩
    · have c0b : decide ((j : Int) < (U.length : Int)) = false := decide_eq_false (by omega)
      obtain rfl : j = U.length := by omega
      rw [List.take_length, ← HBT.out] at HO_3
      obtain ⟨hLl, hLh⟩ := btw_head HBB.out H20.out
      have hLg := fun (x : List Int) (hx : x ∈ btwL l0 l1) => ((btw_mem HBB.out H20.out).1 hx).1
      have hLw := fun (k : Nat) (hk : k < (btwL l0 l1).length) => way_lp HBB.out H20.out hk
      obtain ⟨L, hL⟩ : ∃ L, L = btwL l0 l1 := ⟨_, rfl⟩
      rw [← hL] at HO_3 hLl hLh hLg hLw
      obtain ⟨hLp, hL0⟩ := hLh
      have HLG := Aside0.mk hLg
      have HLW := Aside0.mk hLw
      have HL0 := Aside0.mk hL0
      obtain ⟨Al, cl, e5⟩ := Kd.N_slice HO_3.out
      subst e5
      obtain ⟨B, hB⟩ : ∃ B, B = wr.heap.size := ⟨_, rfl⟩
      have hBw : w.heap.size ≤ B := by rw [hB]; exact below_size HB.out
      clear hLg hLw hL HO_10 hg' hubl hj c0b hlt hL0
      go_wp2_with ((with_reducible refine gate_dst (N := 30) rfl ?_); refine Kd.R_make (Kd.int .i64) _ 3 rfl (N := 30) rfl 22 _ _ rfl (L.length : Int) rfl rfl Tryd.underlying22 (.int .i64 0) 8 info3 rfl (by decide) (by omega) 0 (ok := fun _ => True) (okp := fun _ => True) rfl (fun _ hk => hk) trivial (by omega) (by rw [Int.toNat_natCast]; omega) (Below.refl _ _) (Nat.le_refl _) ?_; intro v30 w5 ho5 hb5 hg5 hnew5; (rw [Int.toNat_natCast] at ho5); (obtain ⟨g, cap, e30, hgb, hgl, _⟩ := Kd.R_form ho5 (by rw [List.length_replicate]; omega)); (rw [List.length_replicate] at e30); subst e30; (have HLS := Aside0.mk (show ∀ W', KeepBut w5 W' g none → Kd.C (Kd.slice 3 (Kd.int .i64)) W' Al L.length L from fun W' hk' => (Kd.N_reads' (Kd.N_keep (Kd.N_mono (ok' := fun k => k < wr.heap.size) (Kd.N_bound HO_3.out) (fun k h => h.2)) ((KeepBut.of_grown hg5 g).trans hk' (.inl rfl)) (fun k h e => by subst e; omega))).2.2)); (have HW5 := Aside0.mk (show Kd.R (Kd.int .i64) 3 w5 B (fun _ => True) (.slice (some ⟨g, 0, none⟩) L.length cap) (List.replicate L.length 0) from by rw [hB]; exact ho5)); have HB5 := Aside0.mk (below_step (by repeat (first | (with_reducible first | exact HB.out | apply below_alloc | apply pw_below_drewN | apply below_drew1) | exact HB.out)) hb5); have HBG := Aside0.mk (show B ≤ g by omega); have HGL := Aside0.mk hgl; clear ho5 hb5 hg5 hnew5 hgb hgl HO_3 HB)
      have hGw := Aside0.mk (show w.heap.size ≤ g from Nat.le_trans hBw HBG.out)
      clear hB hBw
      generalize wr = wa at *
      go_loopg [9] L.length (fun gg v9 w2 => ∃ (m : Nat) (ws : List Int) (z : Int), v9 = .int .i64 z ∧ z = (m : Int) - 1 ∧ m ≤ L.length ∧ m ≤ gg ∧ Aside0 (Kd.R (Kd.int .i64) 3 w2 B (fun _ => True) (.slice (some ⟨g, 0, none⟩) L.length cap) ws) ∧ Aside0 (GB w5 w2 g) ∧ Aside0 (WY l0 L m ws))
      case atStart => exact ⟨L.length, List.replicate L.length 0, _, rfl, (by first | rfl | rw [w64 (by omega) (by omega)]), Nat.le_refl _, by omega, ⟨by (with_reducible repeat (first | apply Kd.R_alloc | apply Kd.R_drewN | apply Kd.R_drew)); exact HW5.out⟩, ⟨by repeat (first | exact gb_refl _ _ | apply gb_drewN)⟩, ⟨WY.start l0 L⟩⟩
      case round =>
       obtain ⟨m, ws, z, rfl, hz, hm, hmg, HWS, HGB, HWY⟩ := hrel
       by_cases hm0 : 1 ≤ m
       · obtain ⟨k, rfl⟩ : ∃ k, m = k + 1 := ⟨m - 1, by omega⟩
         obtain rfl : z = (k : Int) := by omega
         clear hz hm0
         have cge : decide ((k : Int) ≥ 0) = true := decide_eq_true (by omega)
         have q0 : (0 ≤ (k : Int)) = True := eq_true (by omega)
         have q1 : ((k : Int) < (L.length : Int)) = True := eq_true (by omega)
         have hk : k < L.length := by omega
         obtain ⟨adl, Ar, cr, hA, hcr, hrow⟩ := lw_row HLS.out (k : Int) (by omega) (by omega)
         subst hA
         have xl := (hrow wr (gb_keep HGB.out)).1
         rw [Int.toNat_natCast] at xl
         have hxe : rd_L1 L (k : Int) = L[k] := rd_L1n hk
         have hgx := HLG.out _ (List.getElem_mem hk)
         obtain ⟨kg, hkg⟩ := Ev.get (specGifts_ev L[k] (good_sm hgx))
         have hway := HLW.out k hk
         have hsz := ugAll_le L[k] L[k].length 0
         have h8 := ((goodL_iff _).1 hgx).2.1
         have hys8 : L[k].length * L[k].length ≤ 8 * 8 := Nat.mul_le_mul h8 h8
         have hLK := Aside0.mk hxe
         rw [← hxe] at hkg hway hsz h8 hys8
         obtain ⟨ys, hys⟩ : ∃ ys, ys = ugAll (rd_L1 L (k : Int)) 0 (rd_L1 L (k : Int)).length := ⟨_, rfl⟩
         rw [← hys] at hkg hway hsz
         have hyl : ys.length ≤ 64 := by omega
         have HKG := Aside0.mk hkg
         have HWAY := Aside0.mk hway
         have HROW := Aside0.mk hrow
         have HCR := Aside0.mk hcr
         have hgr : g < wr.heap.size := Nat.lt_of_lt_of_le HGL.out HGB.out.size
         have HGR := Aside0.mk hgr
         clear hkg hway hrow hcr hys hsz h8 hys8 hgx hxe hgr
         generalize rd_L1 L (k : Int) = x at *
         go_wp2_with ((with_reducible refine gate_callee (f := 20) rfl ?_); refine goesL_ (some 42) rfl rfl Tryd.func20 (by kernel_rfl) rfl #[.slice Ar x.length cr] rfl (by (try simp only [List.map_toArray, List.map_cons, List.map_nil]); first | done | rfl | (simp only [List.length_drop, List.length_take]; rfl)) ?_; (refine (spec_liGifts.calls kg Ar cr x ys _ ?side1 ?side2 HKG.out).mono ?_); (case side1 => exact (HROW.out _ (gb_keep (by repeat (first | exact HGB.out | apply gb_drewN)))).2); (case side2 => exact HCR.out); rintro e w6 ⟨v42, rfl, ho6, hb6⟩; refine ⟨_, rfl, ?_⟩; (obtain ⟨Ag, cg, rfl⟩ := Kd.S_slice ho6); (have HYS := Aside0.mk (show ∀ W', KeepBut w6 W' g none → Kd.C (Kd.slice 3 (Kd.int .i64)) W' Ag ys.length ys from fun W' hk' => (Kd.S_reads' (Kd.S_keep (Kd.S_mono (ok' := fun k => wr.heap.size ≤ k) (Kd.S_bound ho6) (fun k h => by have := h.2.1; first | exact this | simpa using this)) hk' (fun k h e => by have := HGR.out; subst e; omega))).2.2)); have HW6 := Aside0.mk (Kd.R_below (by (with_reducible repeat (first | apply Kd.R_alloc | apply Kd.R_drewN | apply Kd.R_drew)); exact HWS.out) hb6); have HG6 := Aside0.mk (gb_trans (by repeat (first | exact HGB.out | apply gb_drewN)) (gb_below hb6)); clear ho6 hb6 HWS HGB)
         have hwk := HWY.out.lo k (by omega)
         have HWK := Aside0.mk hwk
         clear hwk HROW HCR
         generalize wr = wb at *
         go_loopg [44] ys.length (fun gg v44 w3 => ∃ (i : Nat) (ws3 : List Int), v44 = .int .i64 (i : Int) ∧ i ≤ ys.length ∧ ys.length - i ≤ gg ∧ Aside0 (Kd.R (Kd.int .i64) 3 w3 B (fun _ => True) (.slice (some ⟨g, 0, none⟩) L.length cap) ws3) ∧ Aside0 (GB w6 w3 g) ∧ Aside0 (WZ ws ws3 k ((ys.take i).foldl (wayF l0 (L.drop (k + 1))) 0)))
         case atStart => exact ⟨0, ws, rfl, Nat.zero_le _, by omega, ⟨by (with_reducible repeat (first | apply Kd.R_alloc | apply Kd.R_drewN | apply Kd.R_drew)); exact HW6.out⟩, ⟨by repeat (first | exact gb_refl _ _ | apply gb_drewN)⟩, ⟨WZ.refl HWK.out⟩⟩
         case round =>
          obtain ⟨i, ws3, rfl, hi, hig, HW3, HG3, HZ3⟩ := hrel
          by_cases hil : i < ys.length
          · have c44 : decide ((i : Int) < (ys.length : Int)) = true := decide_eq_true (by omega)
            have q2 : (0 ≤ (i : Int)) = True := eq_true (by omega)
            have q3 : ((i : Int) < (ys.length : Int)) = True := eq_true (by omega)
            obtain ⟨ady, Ay, cy, hAy, hcy, hrowy⟩ := lw_row HYS.out (i : Int) (by omega) (by omega)
            subst hAy
            have xy := (hrowy wr (gb_keep HG3.out)).1
            rw [Int.toNat_natCast] at xy
            have hye : rd_L1 ys (i : Int) = ys[i] := rd_L1n hil
            have hsn := way_snoc (a := l0) (R := L.drop (k + 1)) hil 0
            rw [← hye] at hsn
            have HSN3 := Aside0.mk hsn
            have HROWY := Aside0.mk hrowy
            have HCY := Aside0.mk hcy
            obtain ⟨v, hv⟩ : ∃ v, v = (ys.take i).foldl (wayF l0 (L.drop (k + 1))) 0 := ⟨_, rfl⟩
            rw [← hv] at HZ3 HSN3
            have HV := Aside0.mk (show 0 ≤ v ∧ v ≤ 30000 from by rw [hv]; exact way_nn _ (fun y hy => HLG.out y (List.mem_of_mem_drop hy)) _ 0 (by omega) (by omega))
            clear hrowy hcy hsn hye hv
            generalize rd_L1 ys (i : Int) = y at *
            go_wp2
            generalize wr = wc at *
            go_loopg [12] L.length (fun gg v12 w4 => ∃ (j : Nat) (ws4 : List Int), v12 = .int .i64 (j : Int) ∧ k + 1 ≤ j ∧ j ≤ L.length ∧ L.length - j ≤ gg ∧ Aside0 (Kd.R (Kd.int .i64) 3 w4 B (fun _ => True) (.slice (some ⟨g, 0, none⟩) L.length cap) ws4) ∧ Aside0 (GB w6 w4 g) ∧ Aside0 (WZ ws ws4 k (wayF l0 ((L.drop (k + 1)).take (j - (k + 1))) v y)))
            case atStart => exact ⟨k + 1, ws3, by go_num, Nat.le_refl _, by omega, by omega, ⟨by (with_reducible repeat (first | apply Kd.R_alloc | apply Kd.R_drewN | apply Kd.R_drew)); exact HW3.out⟩, ⟨by repeat (first | exact HG3.out | apply gb_drewN)⟩, ⟨by rw [Nat.sub_self, way_zero]; exact HZ3.out⟩⟩
            case round =>
             obtain ⟨j, ws4, rfl, hkj, hj, hjg, HW4, HG4, HZ4⟩ := hrel
             by_cases hjl : j < L.length
             · have c12 : decide ((j : Int) < (L.length : Int)) = true := decide_eq_true (by omega)
               have q4 : (0 ≤ (j : Int)) = True := eq_true (by omega)
               have q5 : ((j : Int) < (L.length : Int)) = True := eq_true (by omega)
               obtain ⟨adj, Aj, cj, hAj, hcj, hrowj⟩ := lw_row HLS.out (j : Int) (by omega) (by omega)
               obtain rfl := Option.some.inj hAj
               have xj := (hrowj wr (gb_keep (gb_trans HG6.out HG4.out))).1
               rw [Int.toNat_natCast] at xj
               have hje : rd_L1 L (j : Int) = L[j] := rd_L1n hjl
               have hgj := HLG.out _ (List.getElem_mem hjl)
               have hwt := way_take (a := l0) (R := L.drop (k + 1)) (m := j - (k + 1)) (by rw [List.length_drop]; omega) v y
               have hRe : (L.drop (k + 1))[j - (k + 1)]'(by rw [List.length_drop]; omega) = L[j] := by
                rw [List.getElem_drop]
                congr 1
                omega
               rw [hRe] at hwt
               obtain ⟨kq, hkq⟩ := Ev.get (l1Same_ev L[j] y (by have := ((goodL_iff _).1 hgj).2.1; omega))
               have hrj := HWY.out.hi j hjl (by omega)
               have hoth := HZ4.out.oth j (by omega)
               have hlj0 := lp_nn (a := l0) hgj
               have hlj1 := lp_le (a := l0) hgj
               rw [← hje] at hwt hkq hrj hlj0 hlj1
               have HWT := Aside0.mk hwt
               have HKQ := Aside0.mk hkq
               have HRJ := Aside0.mk (hoth.trans hrj)
               have HLJ := Aside0.mk (And.intro hlj0 hlj1)
               have HROWJ := Aside0.mk hrowj
               have HCJ := Aside0.mk hcj
               clear hwt hkq hrj hoth hlj0 hlj1 hrowj hcj hAj hRe hgj hje
               generalize rd_L1 L (j : Int) = xq at *
               by_cases hsame : xq = y
               · rw [decide_eq_true hsame] at HKQ
                 rw [if_pos hsame] at HWT
                 obtain ⟨vk, hvk⟩ : ∃ vk, vk = rd ws4 (k : Int) := ⟨_, rfl⟩
                 obtain ⟨vj, hvj⟩ : ∃ vj, vj = rd ws4 (j : Int) := ⟨_, rfl⟩
                 have hxk : wr.cell? ⟨g, k, none⟩ = some (.int .i64 vk) ∧ wr.frozen? ⟨g, k, none⟩ = false := by
                  have h1 := Kd.R_celln 0 HW4.out (k : Int) (by omega) (by omega)
                  rw [Int.toNat_natCast] at h1
                  rw [hvk]
                  exact h1
                 have hxj : wr.cell? ⟨g, j, none⟩ = some (.int .i64 vj) := by
                  have h1 := (Kd.R_celln 0 HW4.out (j : Int) (by omega) (by omega)).1
                  rw [Int.toNat_natCast] at h1
                  rw [hvj]
                  exact h1
                 obtain ⟨hxk, hfk⟩ := hxk
                 have hvj2 : vj = lp l0 xq := by rw [hvj]; exact HRJ.out
                 have hvk2 : vk = wayF l0 ((L.drop (k + 1)).take (j - (k + 1))) v y := by rw [hvk]; exact HZ4.out.here
                 obtain ⟨u, hu⟩ : ∃ u, u = max vk (vj + 1) := ⟨_, rfl⟩
                 have HMOST := Aside0.mk (show spec_l1Most.f vk (vj + 1) = some u from by rw [hu]; exact l1Most_eq _ _)
                 have hwq : IntKind.i64.wrap (vj + 1) = vj + 1 := by
                  have h1 := HLJ.out
                  rw [i64_w]
                  exact w64 (by omega) (by omega)
                 have HU2 := Aside0.mk (show u = wayF l0 ((L.drop (k + 1)).take (j + 1 - (k + 1))) v y from by
                  rw [show j + 1 - (k + 1) = j - (k + 1) + 1 by omega, HWT.out, hu, hvk2, hvj2, hsame])
                 have HZ6 := Aside0.mk (show WZ ws (ws4.set k u) k u from WZ.put HZ4.out (by have := HWY.out.len; omega) u)
                 have HPUT := Aside0.mk (show ∀ W2, Below wr.heap.size wr W2 → Kd.R (Kd.int .i64) 3 (W2.setCell ⟨g, k, none⟩ (.int .i64 u)) B (fun _ => True) (.slice (some ⟨g, 0, none⟩) L.length cap) (ws4.set k u) ∧ GB wr (W2.setCell ⟨g, k, none⟩ (.int .i64 u)) g from fun W2 hW2 => by
                  have h1 := Kd.R_putg (Kd.R_below HW4.out hW2) (k : Int) u
                  rw [Int.toNat_natCast] at h1
                  exact ⟨h1.1, gb_trans (gb_below hW2) h1.2⟩)
                 have HBR := Aside0.mk (Below.refl wr.heap.size wr)
                 clear HWT hu hvk hvj hvj2 hvk2 hsame HLJ HRJ
                 go_upto_region 19 with ((with_reducible refine gate_callee (f := 21) rfl ?_); refine goesL_ (some 61) rfl rfl Tryd.func21 (by kernel_rfl) rfl #[.slice Aj xq.length cj, .slice Ay y.length cy] rfl (by (try simp only [List.map_toArray, List.map_cons, List.map_nil]); first | done | rfl | (simp only [List.length_drop, List.length_take]; rfl)) ?_; (refine (spec_l1Same.calls kq Aj cj xq Ay cy y true _ ?side1 ?side2 ?side3 ?side4 HKQ.out).mono ?_); (case side1 => exact (HROWJ.out _ (gb_keep (gb_trans HG6.out (by repeat (first | exact HG4.out | apply gb_drewN))))).2); (case side2 => exact HCJ.out); (case side3 => exact (HROWY.out _ (gb_keep (by repeat (first | exact HG4.out | apply gb_drewN)))).2); (case side4 => exact HCY.out); rintro e w' ⟨rfl, ⟨nd, rfl⟩⟩; refine ⟨_, rfl, ?_⟩)
                 go_region_law ((with_reducible refine gateS_ 73 rfl ?_); refine goes_ Tryd.func22 (by kernel_rfl) rfl #[.int .i64 vk, .int .i64 (vj + 1)] (by rfl) rfl rfl (by first | (simp [Act.eval, Act.put]; done) | rfl | (go_simp; done) | (go_simp; rfl)) ?_; (refine (spec_l1Most.calls vk (vj + 1) u _ HMOST.out).mono ?_); rintro e w' ⟨rfl, ⟨nd2, rfl⟩⟩; refine ⟨_, rfl, ?_⟩)
                 all_goals
                  go_wp2
                  go_roundg (L.length - (j + 1))
                  case measure => omega
                  case rel => exact ⟨j + 1, ws4.set k u, by go_num, by omega, by omega, by omega, ⟨(HPUT.out _ (by repeat (first | (with_reducible first | exact HBR.out | apply below_alloc | apply pw_below_drewN | apply below_drew1) | exact HBR.out))).1⟩, ⟨gb_trans HG4.out (HPUT.out _ (by repeat (first | (with_reducible first | exact HBR.out | apply below_alloc | apply pw_below_drewN | apply below_drew1) | exact HBR.out))).2⟩, ⟨by rw [← HU2.out]; exact HZ6.out⟩⟩
               · rw [decide_eq_false hsame] at HKQ
                 rw [if_neg hsame] at HWT
                 have HWT2 := Aside0.mk (show wayF l0 ((L.drop (k + 1)).take (j + 1 - (k + 1))) v y = wayF l0 ((L.drop (k + 1)).take (j - (k + 1))) v y from by rw [show j + 1 - (k + 1) = j - (k + 1) + 1 by omega]; exact HWT.out)
                 clear HWT
                 go_wp2_with ((with_reducible refine gate_callee (f := 21) rfl ?_); refine goesL_ (some 61) rfl rfl Tryd.func21 (by kernel_rfl) rfl #[.slice Aj xq.length cj, .slice Ay y.length cy] rfl (by (try simp only [List.map_toArray, List.map_cons, List.map_nil]); first | done | rfl | (simp only [List.length_drop, List.length_take]; rfl)) ?_; (refine (spec_l1Same.calls kq Aj cj xq Ay cy y false _ ?side1 ?side2 ?side3 ?side4 HKQ.out).mono ?_); (case side1 => exact (HROWJ.out _ (gb_keep (gb_trans HG6.out (by repeat (first | exact HG4.out | apply gb_drewN))))).2); (case side2 => exact HCJ.out); (case side3 => exact (HROWY.out _ (gb_keep (by repeat (first | exact HG4.out | apply gb_drewN)))).2); (case side4 => exact HCY.out); rintro e w' ⟨rfl, ⟨nd, rfl⟩⟩; refine ⟨_, rfl, ?_⟩)
                 go_roundg (L.length - (j + 1))
                 case measure => omega
                 case rel => exact ⟨j + 1, ws4, by go_num, by omega, by omega, by omega, ⟨by (with_reducible repeat (first | apply Kd.R_alloc | apply Kd.R_drewN | apply Kd.R_drew)); exact HW4.out⟩, ⟨by repeat (first | exact HG4.out | apply gb_drewN)⟩, ⟨by rw [HWT2.out]; exact HZ4.out⟩⟩
             · have c12 : decide ((j : Int) < (L.length : Int)) = false := decide_eq_false (by omega)
               obtain rfl : j = L.length := by omega
               have HZ5 := Aside0.mk (show WZ ws ws4 k ((ys.take (i + 1)).foldl (wayF l0 (L.drop (k + 1))) 0) from by
                rw [HSN3.out]
                have h1 := HZ4.out
                rw [List.take_of_length_le (by rw [List.length_drop]; omega)] at h1
                exact h1)
               go_wp2
               go_roundg (ys.length - (i + 1))
               case measure => omega
               case rel => exact ⟨i + 1, ws4, by go_num, by omega, by omega, ⟨by (with_reducible repeat (first | apply Kd.R_alloc | apply Kd.R_drewN | apply Kd.R_drew)); exact HW4.out⟩, ⟨by repeat (first | exact HG4.out | apply gb_drewN)⟩, ⟨HZ5.out⟩⟩
          · have c44 : decide ((i : Int) < (ys.length : Int)) = false := decide_eq_false (by omega)
            have HZ5 := Aside0.mk (show WY l0 L k ws3 from by
             refine WY.step HWY.out hk ?_
             have h1 := HZ3.out
             rw [List.take_of_length_le (by omega), HWAY.out] at h1
             rw [← hLK.out]
             exact h1)
            go_wp2
            go_roundg k
            case measure => omega
            case rel => exact ⟨k, ws3, _, rfl, (by first | rfl | rw [w64 (by omega) (by omega)]), by omega, by omega, ⟨by (with_reducible repeat (first | apply Kd.R_alloc | apply Kd.R_drewN | apply Kd.R_drew)); exact HW3.out⟩, ⟨by repeat (first | exact gb_trans HG6.out HG3.out | apply gb_drewN)⟩, ⟨HZ5.out⟩⟩
       · obtain rfl : m = 0 := by omega
         obtain rfl : z = -1 := by omega
         clear hz hm hmg hm0
         have p1 : ((0 : Int) < (L.length : Int)) = True := eq_true (by omega)
         have hx0 : wr.cell? ⟨g, 0, none⟩ = some (.int .i64 (lp l0 (descL l1))) := by
          have h1 := (Kd.R_celln 0 HWS.out (0 : Int) (by omega) (by omega)).1
          have h2 := HWY.out.hi 0 hLp (by omega)
          rw [HL0.out] at h2
          rw [← h2]
          exact h1
         clear HWS
         go_wp2
         go_ret
         exact ⟨rfl, below_gb HB5.out HGB.out hGw.out⟩
  next => cases h
 next => cases h
end Go.Proofs.YtefbphpgaeffaaaDoor.A

-- made by a program of this repo (wip/pp.py) through the kit's printer
namespace Go.Proofs.YtefbphpgaeffaaaDoor.A
open Go.RowKit Go.Proofs.YtefbphpgaeffaaaDoorW.PrintWords Go.Proofs.YtefbphpgaeffaaaDoorW.PrintLast Go.Proofs.YtefbphpgaeffaaaDoorW.PrintMore
attribute [local go_sem] max2_int min2_int max_two min_two max_three min_three max_four min_four
set_option linter.unusedVariables false
set_option linter.unusedSimpArgs false

/-! ### spec_LongestPath: function 4 -/
def spec_LongestPath.f (k : Nat) (l0 : List Int) (l1 : List Int) : Option (Int × Bool) := (spec_giLists.f k l0 l1).bind fun t222 => (if t222 = true then ((spec_liSum.f k l0).bind fun t223 => (if t223 > 20 then (some (0, false)) else ((spec_giLongest.f l0 l1).bind fun t224 => (some (t224, true))))) else (some (0, false)))
set_option maxHeartbeats 8000000 in
set_option maxRecDepth 100000 in
theorem spec_LongestPath.calls (k : Nat) (A0 : Option Addr) (c0 : Nat) (l0 : List Int) (A1 : Option Addr) (c1 : Nat) (l1 : List Int) (r1 : Int) (r2 : Bool) (w : World) (hr0 : Kd.C (Kd.int .i64) w A0 l0.length l0) (hc0 : l0.length ≤ c0) (hr1 : Kd.C (Kd.int .i64) w A1 l1.length l1) (hc1 : l1.length ≤ c1) (h : spec_LongestPath.f k l0 l1 = some (r1, r2)) :
 Calls Tryd.prog 4 #[.slice A0 l0.length c0, .slice A1 l1.length c1] w fun e w' => e = .returned (.tuple #[.int .i64 r1, .bool r2]) ∧ Below w.heap.size w w' := by
 have HR0 := Aside0.mk hr0
 have HC0 := Aside0.mk hc0
 clear hr0 hc0
 have HR1 := Aside0.mk hr1
 have HC1 := Aside0.mk hc1
 clear hr1 hc1
 have HB := Aside0.mk (Below.refl w.heap.size w)
 have H : ((spec_giLists.f k l0 l1).bind fun t222 => (if t222 = true then ((spec_liSum.f k l0).bind fun t223 => (if t223 > 20 then (some (0, false)) else ((spec_giLongest.f l0 l1).bind fun t224 => (some (t224, true))))) else (some (0, false)))) = some (r1, r2) := h
 clear h
 replace H := Option.bind_eq_some_iff.mp H
 obtain ⟨t222, A30, H⟩ := H
 replace H : (if t222 = true then ((spec_liSum.f k l0).bind fun t223 => (if t223 > 20 then (some (0, false)) else ((spec_giLongest.f l0 l1).bind fun t224 => (some (t224, true))))) else (some (0, false))) = some (r1, r2) := H
 have A3 := Aside0.mk A30
 clear A30
 by_cases c4 : t222 = true
 · subst c4
   have H1 : ((spec_liSum.f k l0).bind fun t223 => (if t223 > 20 then (some (0, false)) else ((spec_giLongest.f l0 l1).bind fun t224 => (some (t224, true))))) = some (r1, r2) := by rw [if_pos rfl] at H; exact H
   clear H
   have H := H1
   clear H1
   replace H := Option.bind_eq_some_iff.mp H
   obtain ⟨t223, A50, H⟩ := H
   replace H : (if t223 > 20 then (some (0, false)) else ((spec_giLongest.f l0 l1).bind fun t224 => (some (t224, true)))) = some (r1, r2) := H
   have A5 := Aside0.mk A50
   clear A50
   by_cases c6 : t223 > 20
   · rw [if_pos c6] at H
     have c6b0 : decide (20 < t223) = true := decide_eq_true c6
     clear c6
     simp only [Option.some.injEq, Prod.mk.injEq] at H
     obtain ⟨rfl, rfl⟩ := H
     go_enter Tryd.func4, Tryd.ntmps4
     go_wp2_with (first | ((with_reducible refine gate_callee (f := 8) rfl ?_); refine goesL_ (some 8) rfl rfl Tryd.func8 (by kernel_rfl) rfl #[.slice A0 l0.length c0, .slice A1 l1.length c1] rfl (by (try simp only [List.map_toArray, List.map_cons, List.map_nil]); first | done | rfl | (simp only [List.length_drop, List.length_take]; rfl)) ?_; (with_reducible refine (spec_giLists.calls k _ _ l0 _ _ l1 true _ ?side1 ?side2 ?side3 ?side4 A3.out).mono ?_); (case side1 => repeat (first | exact HR0.out | (with_reducible refine Kd.C_alloc ?_ _) | (with_reducible refine Kd.C_drewN ?_ _) | (with_reducible refine Kd.C_drew ?_))); (case side2 => exact HC0.out); (case side3 => repeat (first | exact HR1.out | (with_reducible refine Kd.C_alloc ?_ _) | (with_reducible refine Kd.C_drewN ?_ _) | (with_reducible refine Kd.C_drew ?_))); (case side4 => exact HC1.out); rintro e w7 ⟨rfl, hb⟩; refine ⟨_, rfl, ?_⟩; have n0_ := Aside0.mk (below_step (by repeat (first | (with_reducible first | exact HB.out | apply below_alloc | apply pw_below_drewN | apply below_drew1) | exact HB.out)) hb); clear HB; have HB := n0_; clear n0_; (try clear hb); (try clear hb2); (try clear hk); (try clear hi)) | (go_at_call 9; (with_reducible refine (spec_liSum.calls k _ _ l0 t223 _ ?side1 ?side2 A5.out).mono ?_); (case side1 => repeat (first | exact (Kd.C_below HR0.out HB.out) | (with_reducible refine Kd.C_alloc ?_ _) | (with_reducible refine Kd.C_drewN ?_ _) | (with_reducible refine Kd.C_drew ?_))); (case side2 => exact HC0.out); rintro e w' ⟨rfl, ⟨nd, rfl⟩⟩))
     go_ret2
     exact ⟨by first | rfl | (simp [errW_none, errW_some] <;> rfl) | (simp [*, errW_none, errW_some] <;> rfl), by repeat (first | (with_reducible first | exact HB.out | apply below_alloc | apply pw_below_drewN | apply below_drew1) | exact HB.out)⟩
   · rw [if_neg c6] at H
     have c6b0 : decide (20 < t223) = false := decide_eq_false c6
     clear c6
     replace H := Option.bind_eq_some_iff.mp H
     obtain ⟨t224, A80, H⟩ := H
     replace H : (some (t224, true)) = some (r1, r2) := H
     have A8 := Aside0.mk A80
     clear A80
     simp only [Option.some.injEq, Prod.mk.injEq] at H
     obtain ⟨rfl, rfl⟩ := H
     go_enter Tryd.func4, Tryd.ntmps4
     go_wp2_with (first | ((with_reducible refine gate_callee (f := 8) rfl ?_); refine goesL_ (some 8) rfl rfl Tryd.func8 (by kernel_rfl) rfl #[.slice A0 l0.length c0, .slice A1 l1.length c1] rfl (by (try simp only [List.map_toArray, List.map_cons, List.map_nil]); first | done | rfl | (simp only [List.length_drop, List.length_take]; rfl)) ?_; (with_reducible refine (spec_giLists.calls k _ _ l0 _ _ l1 true _ ?side1 ?side2 ?side3 ?side4 A3.out).mono ?_); (case side1 => repeat (first | exact HR0.out | (with_reducible refine Kd.C_alloc ?_ _) | (with_reducible refine Kd.C_drewN ?_ _) | (with_reducible refine Kd.C_drew ?_))); (case side2 => exact HC0.out); (case side3 => repeat (first | exact HR1.out | (with_reducible refine Kd.C_alloc ?_ _) | (with_reducible refine Kd.C_drewN ?_ _) | (with_reducible refine Kd.C_drew ?_))); (case side4 => exact HC1.out); rintro e w9 ⟨rfl, hb⟩; refine ⟨_, rfl, ?_⟩; have n0_ := Aside0.mk (below_step (by repeat (first | (with_reducible first | exact HB.out | apply below_alloc | apply pw_below_drewN | apply below_drew1) | exact HB.out)) hb); clear HB; have HB := n0_; clear n0_; (try clear hb); (try clear hb2); (try clear hk); (try clear hi)) | (go_at_call 9; (with_reducible refine (spec_liSum.calls k _ _ l0 t223 _ ?side1 ?side2 A5.out).mono ?_); (case side1 => repeat (first | exact (Kd.C_below HR0.out HB.out) | (with_reducible refine Kd.C_alloc ?_ _) | (with_reducible refine Kd.C_drewN ?_ _) | (with_reducible refine Kd.C_drew ?_))); (case side2 => exact HC0.out); rintro e w' ⟨rfl, ⟨nd, rfl⟩⟩) | ((with_reducible refine gate_callee (f := 10) rfl ?_); refine goesL_ (some 17) rfl rfl Tryd.func10 (by kernel_rfl) rfl #[.slice A0 l0.length c0, .slice A1 l1.length c1] rfl (by (try simp only [List.map_toArray, List.map_cons, List.map_nil]); first | done | rfl | (simp only [List.length_drop, List.length_take]; rfl)) ?_; (with_reducible refine (spec_giLongest.calls _ _ l0 _ _ l1 t224 _ ?side1 ?side2 ?side3 ?side4 A8.out).mono ?_); (case side1 => repeat (first | exact (Kd.C_below HR0.out (by repeat (first | (with_reducible first | exact HB.out | apply below_alloc | apply pw_below_drewN | apply below_drew1) | exact HB.out))) | (with_reducible refine Kd.C_alloc ?_ _) | (with_reducible refine Kd.C_drewN ?_ _) | (with_reducible refine Kd.C_drew ?_))); (case side2 => exact HC0.out); (case side3 => repeat (first | exact (Kd.C_below HR1.out (by repeat (first | (with_reducible first | exact HB.out | apply below_alloc | apply pw_below_drewN | apply below_drew1) | exact HB.out))) | (with_reducible refine Kd.C_alloc ?_ _) | (with_reducible refine Kd.C_drewN ?_ _) | (with_reducible refine Kd.C_drew ?_))); (case side4 => exact HC1.out); rintro e w10 ⟨rfl, hb⟩; refine ⟨_, rfl, ?_⟩; have n0_ := Aside0.mk (below_step (by repeat (first | (with_reducible first | exact HB.out | apply below_alloc | apply pw_below_drewN | apply below_drew1) | exact HB.out)) hb); clear HB; have HB := n0_; clear n0_; (try clear hb); (try clear hb2); (try clear hk); (try clear hi)))
     go_ret2
     exact ⟨by first | rfl | (simp [errW_none, errW_some] <;> rfl) | (simp [*, errW_none, errW_some] <;> rfl), by repeat (first | (with_reducible first | exact HB.out | apply below_alloc | apply pw_below_drewN | apply below_drew1) | exact HB.out)⟩
 · replace c4 := Bool.eq_false_iff.mpr c4
   subst c4
   have H1 : (some (0, false)) = some (r1, r2) := by rw [if_neg (show ¬ (false = true) by decide)] at H; exact H
   clear H
   have H := H1
   clear H1
   simp only [Option.some.injEq, Prod.mk.injEq] at H
   obtain ⟨rfl, rfl⟩ := H
   go_enter Tryd.func4, Tryd.ntmps4
   go_wp2_with (first | ((with_reducible refine gate_callee (f := 8) rfl ?_); refine goesL_ (some 8) rfl rfl Tryd.func8 (by kernel_rfl) rfl #[.slice A0 l0.length c0, .slice A1 l1.length c1] rfl (by (try simp only [List.map_toArray, List.map_cons, List.map_nil]); first | done | rfl | (simp only [List.length_drop, List.length_take]; rfl)) ?_; (with_reducible refine (spec_giLists.calls k _ _ l0 _ _ l1 false _ ?side1 ?side2 ?side3 ?side4 A3.out).mono ?_); (case side1 => repeat (first | exact HR0.out | (with_reducible refine Kd.C_alloc ?_ _) | (with_reducible refine Kd.C_drewN ?_ _) | (with_reducible refine Kd.C_drew ?_))); (case side2 => exact HC0.out); (case side3 => repeat (first | exact HR1.out | (with_reducible refine Kd.C_alloc ?_ _) | (with_reducible refine Kd.C_drewN ?_ _) | (with_reducible refine Kd.C_drew ?_))); (case side4 => exact HC1.out); rintro e w11 ⟨rfl, hb⟩; refine ⟨_, rfl, ?_⟩; have n0_ := Aside0.mk (below_step (by repeat (first | (with_reducible first | exact HB.out | apply below_alloc | apply pw_below_drewN | apply below_drew1) | exact HB.out)) hb); clear HB; have HB := n0_; clear n0_; (try clear hb); (try clear hb2); (try clear hk); (try clear hi)))
   go_ret2
   exact ⟨by first | rfl | (simp [errW_none, errW_some] <;> rfl) | (simp [*, errW_none, errW_some] <;> rfl), by repeat (first | (with_reducible first | exact HB.out | apply below_alloc | apply pw_below_drewN | apply below_drew1) | exact HB.out)⟩

end Go.Proofs.YtefbphpgaeffaaaDoor.A

-- made by a program of this repo (wip/pp.py) through the kit's printer
namespace Go.Proofs.YtefbphpgaeffaaaDoor.A
open Go.RowKit Go.Proofs.YtefbphpgaeffaaaDoorW.PrintWords Go.Proofs.YtefbphpgaeffaaaDoorW.PrintLast Go.Proofs.YtefbphpgaeffaaaDoorW.PrintMore
attribute [local go_sem] max2_int min2_int max_two min_two max_three min_three max_four min_four
set_option linter.unusedVariables false
set_option linter.unusedSimpArgs false

/-! ### laws_toIntS: function 5 -/
def laws_toIntS.l0 : Nat → List Int → List Int → Int → Option (List Int)
 | 0, _, _, _ => none
 | k + 1, x0, x3, x4 => if x4 < (x0.length : Int) then (if 0 ≤ x4 then (if x4 < (x3.length : Int) then (laws_toIntS.l0 k x0 (x3.set (x4 : Int).toNat (rd x0 x4)) (wrap64 (x4 + 1))) else (none)) else (none)) else (some x3)
def laws_toIntS.f (k : Nat) (l0 : List Int) : Option (List Int) := if 0 ≤ (l0.length : Int) then (if ((l0.length : Int) : Int).toNat ≤ 35184372088832 then (laws_toIntS.l0 k l0 (List.replicate ((l0.length : Int) : Int).toNat 0) 0) else (none)) else (none)
set_option maxHeartbeats 8000000 in
set_option maxRecDepth 100000 in
theorem laws_toIntS.calls (k : Nat) (A0 : Option Addr) (c0 : Nat) (l0 : List Int) (r : List Int) (w : World) (hr0 : Kd.C (Kd.int .i64) w A0 l0.length l0) (hc0 : l0.length ≤ c0) (h : laws_toIntS.f k l0 = some r) :
 Calls Tryd.prog 5 #[.slice A0 l0.length c0] w fun e w' => ∃ v0_ : Value, e = .returned (v0_) ∧ Kd.R (Kd.int .i64) 3 w' w.heap.size (fun _ => True) v0_ r ∧ Below w.heap.size w w' := by
 have HR0 := Aside0.mk hr0
 have HC0 := Aside0.mk hc0
 clear hr0 hc0
 have HB := Aside0.mk (Below.refl w.heap.size w)
 have H : (if 0 ≤ (l0.length : Int) then (if ((l0.length : Int) : Int).toNat ≤ 35184372088832 then (laws_toIntS.l0 k l0 (List.replicate ((l0.length : Int) : Int).toNat 0) 0) else (none)) else (none)) = some r := h
 clear h
 by_cases c2 : 0 ≤ (l0.length : Int)
 · rw [if_pos c2] at H
   have c2b0 := eq_true c2
   have c2b1 : decide (0 ≤ (l0.length : Int)) = true := decide_eq_true c2
   clear c2
   by_cases c3 : ((l0.length : Int) : Int).toNat ≤ 35184372088832
   · rw [if_pos c3] at H
     have c3b0 := eq_true c3
     have c3b1 : decide (((l0.length : Int) : Int).toNat ≤ 35184372088832) = true := decide_eq_true c3
     clear c3
     obtain ⟨y225, hy225⟩ : ∃ y_ : List Int, y_ = (List.replicate ((l0.length : Int) : Int).toNat 0) := ⟨_, rfl⟩
     replace H : (laws_toIntS.l0 k l0 y225 0) = some r := by first | (rw [hy225]; with_reducible exact H) | (have H2_ := (Option.bind_some _ _).symm.trans H; rw [hy225]; with_reducible exact H2_) | (have H2_ := (Option.bind_some _ _).symm.trans H; with_reducible exact H2_) | with_reducible exact H | (rw [hy225]; exact H) | exact H
     have Ny225 := Aside0.mk hy225
     clear hy225
     have H' := Aside0.mk H
     clear H
     go_enter Tryd.func5, Tryd.ntmps5
     go_wp2_with (first | ((with_reducible refine gate_dst (N := 7) rfl ?_); refine Kd.R_make (Kd.int .i64) _ 3 rfl (N := 7) rfl 22 _ _ rfl (l0.length : Int) rfl rfl Tryd.underlying22 (.int .i64 0) 8 info3 rfl (by decide) (by omega) 0 (ok := fun _ => True) (okp := fun _ => True) rfl (fun _ hk => hk) trivial (of_decide_eq_true (by first | (with_reducible assumption) | assumption)) (Nat.le_trans (Nat.mul_le_mul_right _ (of_decide_eq_true (by first | (with_reducible assumption) | assumption) : (l0.length : Int).toNat ≤ 35184372088832)) (by omega)) (Below.refl _ _) (Nat.le_refl _) ?_; intro v226 w4 ho5 hb hg_ hnew_; clear hg_ hnew_; (first | rw [← Ny225.out] at ho5 | (simp only [Int.reduceToNat] at ho5; rw [← Ny225.out] at ho5)); have n0_ := Aside0.mk (Kd.R_lower ho5 (below_size (by repeat (first | (with_reducible first | exact HB.out | apply below_alloc | apply pw_below_drewN | apply below_drew1) | exact HB.out)))); have n1_ := Aside0.mk (below_step (by repeat (first | (with_reducible first | exact HB.out | apply below_alloc | apply pw_below_drewN | apply below_drew1) | exact HB.out)) hb); clear HB; have HO227 := n0_; have HB := n1_; clear n0_ n1_; clear hb ho5))
     go_loopg [4] k (fun kq v4 w' => ∃ (x3_1 : List Int) (x4_1 : Int), v4 = .int .i64 x4_1 ∧ Aside0 (laws_toIntS.l0 kq l0 x3_1 x4_1 = some r) ∧ Aside0 (kq ≤ k) ∧ Aside0 (Kd.R (Kd.int .i64) 3 w' w.heap.size (fun _ => True) v226 x3_1) ∧ Aside0 (Below w.heap.size w w'))
     case atStart => exact ⟨(y225), (0), (by first | rfl | (simp; done) | (simp [*]; done)), H', ⟨Nat.le_refl _⟩, ⟨by (with_reducible repeat (first | apply Kd.R_alloc | apply Kd.R_drewN | apply Kd.R_drew)); exact HO227.out⟩, ⟨by repeat (first | (with_reducible first | exact HB.out | apply below_alloc | apply pw_below_drewN | apply below_drew1) | exact HB.out)⟩⟩
     case round =>
      clear H'
      try clear c2
      try clear c2b0
      try clear c2b1
      try clear p2
      try clear c3
      try clear c3b0
      try clear c3b1
      try clear c5
      obtain ⟨x3_1, x4_1, rfl, HA, HK1, HO_3, HB⟩ := hrel
      cases gk with
      | zero => exact absurd HA.out (by simp [laws_toIntS.l0])
      | succ k1 =>
       have H := HA.out
       clear HA
       simp only [laws_toIntS.l0] at H
       by_cases c6 : x4_1 < (l0.length : Int)
       · rw [if_pos c6] at H
         have c6b0 : decide (x4_1 < (l0.length : Int)) = true := decide_eq_true c6
         clear c6
         by_cases c7 : 0 ≤ x4_1
         · rw [if_pos c7] at H
           have c7b0 : decide (0 ≤ x4_1) = true := decide_eq_true c7
           clear c7
           by_cases c8 : x4_1 < (x3_1.length : Int)
           · rw [if_pos c8] at H
             have c8b0 : decide (x4_1 < (x3_1.length : Int)) = true := decide_eq_true c8
             clear c8
             obtain ⟨y229, hy229⟩ : ∃ y_ : List Int, y_ = (x3_1.set (x4_1 : Int).toNat (rd l0 x4_1)) := ⟨_, rfl⟩
             replace H : (laws_toIntS.l0 k1 l0 y229 (wrap64 (x4_1 + 1))) = some r := by first | (rw [hy229]; with_reducible exact H) | (have H2_ := (Option.bind_some _ _).symm.trans H; rw [hy229]; with_reducible exact H2_) | (have H2_ := (Option.bind_some _ _).symm.trans H; with_reducible exact H2_) | with_reducible exact H | (rw [hy229]; exact H) | exact H
             have Ny229 := Aside0.mk hy229
             clear hy229
             have H' := Aside0.mk H
             clear H
             have p228 : 0 ≤ (x4_1 : Int) := of_decide_eq_true (by first | (with_reducible assumption) | assumption)
             have q228 : x4_1 < (l0.length : Int) := of_decide_eq_true (by first | (with_reducible assumption) | assumption)
             obtain ⟨ad228, e228, hx228_0⟩ := Kd.at_int HR0.out x4_1 p228 q228
             cases e228
             replace hx228_0 := (HB.out.cell (World.block_lt_of_cell? w _ hx228_0)).trans hx228_0
             replace p228 := eq_true p228
             replace q228 := eq_true q228
             have p9 : 0 ≤ (x4_1 : Int) := of_decide_eq_true (by first | (with_reducible assumption) | assumption)
             have q9 : (x4_1 : Int) < ((x3_1.length : Int) : Int) := of_decide_eq_true (by first | (with_reducible assumption) | assumption)
             obtain ⟨go9, co9, eo9, gb9, gl9, cl9, HG9⟩ := Kd.R_form HO_3.out (by omega)
             (first | cases eo9 | (injection eo9 with ea_ en_ ec_; (first | subst ea_ | (injection ea_ with ea_; subst ea_)); subst ec_; clear en_))
             have GB9 := Aside0.mk gb9
             have GG9 := Aside0.mk HG9
             clear gb9 gl9 HG9
             obtain ⟨hx9_0, hf9_0⟩ := Kd.R_celln 0 HO_3.out (x4_1 : Int) p9 q9
             replace p9 := eq_true p9
             replace q9 := eq_true q9
             have HP10 := Kd.R_putg HO_3.out (x4_1 : Int) (rd l0 x4_1)
             go_wp2_with (first | ((with_reducible refine gate_store (t := 3) (p := 20) rfl ?_); refine store_event (t := 3) (p := 20) (v := ?vo_w11) (w1 := (wr.setCell ⟨go9, (x4_1 : Int).toNat, none⟩ (.int .i64 (rd l0 x4_1)))) ?hg ?ho ?hn ?hr ?_; (case ho => rfl); (case hg => rfl); (case hn => rfl); (case hr => first | (go_simp; done) | (go_simp; rfl)); intro w11 hw; have hg : wr.grownBy w11 (some go9) := (by rw [hw]; exact HP10.2); have hp_ : Kd.R (Kd.int .i64) 3 w11 w.heap.size (fun _ => True) (.slice (some ⟨go9, 0, none⟩) x3_1.length co9) y229 := (by rw [hw, Ny229.out]; exact HP10.1); clear HP10; have n0_ := Aside0.mk (hp_); have n1_ := Aside0.mk ((by rw [hw]; exact below_set (HB.out) GB9.out : Below w.heap.size w w11)); clear HO_3; clear HB; have HO_3 := n0_; have HB := n1_; clear n0_ n1_; clear hg hw hp_))
             go_roundg k1
             case measure => have := HK1.out; omega
             case rel => exact ⟨(y229), (wrap64 (x4_1 + 1)), (by first | rfl | (simp; done) | (simp [*]; done)), H', ⟨by have := HK1.out; omega⟩, ⟨by (with_reducible repeat (first | apply Kd.R_alloc | apply Kd.R_drewN | apply Kd.R_drew)); exact HO_3.out⟩, ⟨by repeat (first | (with_reducible first | exact HB.out | apply below_alloc | apply pw_below_drewN | apply below_drew1) | exact HB.out)⟩⟩
           · rw [if_neg c8] at H
             exact absurd H (by simp)
         · rw [if_neg c7] at H
           exact absurd H (by simp)
       · rw [if_neg c6] at H
         have c6b0 : decide (x4_1 < (l0.length : Int)) = false := decide_eq_false c6
         clear c6
         obtain rfl := Option.some.inj H
         go_wp2
         go_ret
         exact ⟨_, by first | rfl | (simp [errW_none, errW_some] <;> rfl) | (simp [*, errW_none, errW_some] <;> rfl), by (with_reducible repeat (first | apply Kd.R_alloc | apply Kd.R_drewN | apply Kd.R_drew)); exact HO_3.out, by repeat (first | (with_reducible first | exact HB.out | apply below_alloc | apply pw_below_drewN | apply below_drew1) | exact HB.out)⟩
   · rw [if_neg c3] at H
     exact absurd H (by simp)
 · rw [if_neg c2] at H
   exact absurd H (by simp)

end Go.Proofs.YtefbphpgaeffaaaDoor.A

-- made by a program of this repo (wip/pp.py) through the kit's printer
namespace Go.Proofs.YtefbphpgaeffaaaDoor.A
open Go.RowKit Go.Proofs.YtefbphpgaeffaaaDoorW.PrintWords Go.Proofs.YtefbphpgaeffaaaDoorW.PrintLast Go.Proofs.YtefbphpgaeffaaaDoorW.PrintMore
attribute [local go_sem] max2_int min2_int max_two min_two max_three min_three max_four min_four
set_option linter.unusedVariables false
set_option linter.unusedSimpArgs false

/-! ### laws_eqIntS: function 7 -/
def laws_eqIntS.l0 : Nat → List Int → List Int → Int → Option (Bool)
 | 0, _, _, _ => none
 | k + 1, x0, x1, x5 => if x5 < (x0.length : Int) then (if 0 ≤ x5 then (if x5 < (x1.length : Int) then (if (rd x0 x5) = (rd x1 x5) then (laws_eqIntS.l0 k x0 x1 (wrap64 (x5 + 1))) else (some false)) else (none)) else (none)) else (some true)
def laws_eqIntS.f (k : Nat) (l0 : List Int) (l1 : List Int) : Option (Bool) := if (l0.length : Int) = (l1.length : Int) then (laws_eqIntS.l0 k l0 l1 0) else (some false)
set_option maxHeartbeats 8000000 in
set_option maxRecDepth 100000 in
theorem laws_eqIntS.calls (k : Nat) (A0 : Option Addr) (c0 : Nat) (l0 : List Int) (A1 : Option Addr) (c1 : Nat) (l1 : List Int) (r : Bool) (w : World) (hr0 : Kd.C (Kd.int .i64) w A0 l0.length l0) (hc0 : l0.length ≤ c0) (hr1 : Kd.C (Kd.int .i64) w A1 l1.length l1) (hc1 : l1.length ≤ c1) (h : laws_eqIntS.f k l0 l1 = some r) :
 Calls Tryd.prog 7 #[.slice A0 l0.length c0, .slice A1 l1.length c1] w fun e w' => e = .returned (.bool r) ∧ Drawn0 w w' := by
 have HR0 := Aside0.mk hr0
 have HC0 := Aside0.mk hc0
 clear hr0 hc0
 have HR1 := Aside0.mk hr1
 have HC1 := Aside0.mk hc1
 clear hr1 hc1
 have H : (if (l0.length : Int) = (l1.length : Int) then (laws_eqIntS.l0 k l0 l1 0) else (some false)) = some r := h
 clear h
 by_cases c3 : (l0.length : Int) = (l1.length : Int)
 · rw [if_pos c3] at H
   have c3b0 : ((l0.length : Int) == (l1.length : Int)) = true := beq_iff_eq.mpr c3
   have c3b1 : ((l0.length : Int) != (l1.length : Int)) = false := bne_eq_false_iff_eq.mpr c3
   have c3b2 : (l0.length == l1.length) = true := by first | simpa using c3 | (simp at c3 ⊢; omega)
   clear c3
   have H' := Aside0.mk H
   clear H
   go_enter Tryd.func7, Tryd.ntmps7
   go_wp2
   repeat (go_quiet (fail); try go_wp2)
   go_loopg [5] k (fun kq v5 w' => ∃ (x5_1 : Int), v5 = .int .i64 x5_1 ∧ Aside0 (laws_eqIntS.l0 kq l0 l1 x5_1 = some r) ∧ Aside0 (kq ≤ k) ∧ Drawn0 w w')
   case atStart => exact ⟨(0), (by first | rfl | (simp; done) | (simp [*]; done)), H', ⟨Nat.le_refl _⟩, by repeat (first | exact Drawn0.refl _ | apply Drawn0.step)⟩
   case round =>
    clear H'
    try clear c1
    try clear p2
    try clear c3
    try clear c3b0
    try clear c3b1
    try clear c3b2
    obtain ⟨x5_1, rfl, HA, HK1, ⟨m1, rfl⟩⟩ := hrel
    cases gk with
    | zero => exact absurd HA.out (by simp [laws_eqIntS.l0])
    | succ k1 =>
     have H := HA.out
     clear HA
     simp only [laws_eqIntS.l0] at H
     by_cases c4 : x5_1 < (l0.length : Int)
     · rw [if_pos c4] at H
       have c4b0 : decide (x5_1 < (l0.length : Int)) = true := decide_eq_true c4
       clear c4
       by_cases c5 : 0 ≤ x5_1
       · rw [if_pos c5] at H
         have c5b0 : decide (0 ≤ x5_1) = true := decide_eq_true c5
         clear c5
         by_cases c6 : x5_1 < (l1.length : Int)
         · rw [if_pos c6] at H
           have c6b0 : decide (x5_1 < (l1.length : Int)) = true := decide_eq_true c6
           clear c6
           by_cases c7 : (rd l0 x5_1) = (rd l1 x5_1)
           · rw [if_pos c7] at H
             have c7b0 : ((rd l0 x5_1) == (rd l1 x5_1)) = true := beq_iff_eq.mpr c7
             have c7b1 : ((rd l0 x5_1) != (rd l1 x5_1)) = false := bne_eq_false_iff_eq.mpr c7
             clear c7
             have H' := Aside0.mk H
             clear H
             have p263 : 0 ≤ (x5_1 : Int) := of_decide_eq_true (by first | (with_reducible assumption) | assumption)
             have q263 : x5_1 < (l0.length : Int) := of_decide_eq_true (by first | (with_reducible assumption) | assumption)
             obtain ⟨ad263, e263, hx263_0⟩ := Kd.at_int HR0.out x5_1 p263 q263
             cases e263
             replace p263 := eq_true p263
             replace q263 := eq_true q263
             have p264 : 0 ≤ (x5_1 : Int) := of_decide_eq_true (by first | (with_reducible assumption) | assumption)
             have q264 : x5_1 < (l1.length : Int) := of_decide_eq_true (by first | (with_reducible assumption) | assumption)
             obtain ⟨ad264, e264, hx264_0⟩ := Kd.at_int HR1.out x5_1 p264 q264
             cases e264
             replace p264 := eq_true p264
             replace q264 := eq_true q264
             go_wp2
             repeat (go_quiet (fail); try go_wp2)
             go_roundg k1
             case measure => have := HK1.out; omega
             case rel => exact ⟨(wrap64 (x5_1 + 1)), (by first | rfl | (simp; done) | (simp [*]; done)), H', ⟨by have := HK1.out; omega⟩, by repeat (first | exact Drawn0.refl _ | apply Drawn0.step)⟩
           · rw [if_neg c7] at H
             have c7b0 : ((rd l0 x5_1) == (rd l1 x5_1)) = false := beq_eq_false_iff_ne.mpr c7
             have c7b1 : ((rd l0 x5_1) != (rd l1 x5_1)) = true := bne_iff_ne.mpr c7
             obtain rfl := Option.some.inj H
             have p263 : 0 ≤ (x5_1 : Int) := of_decide_eq_true (by first | (with_reducible assumption) | assumption)
             have q263 : x5_1 < (l0.length : Int) := of_decide_eq_true (by first | (with_reducible assumption) | assumption)
             obtain ⟨ad263, e263, hx263_0⟩ := Kd.at_int HR0.out x5_1 p263 q263
             cases e263
             replace p263 := eq_true p263
             replace q263 := eq_true q263
             have p264 : 0 ≤ (x5_1 : Int) := of_decide_eq_true (by first | (with_reducible assumption) | assumption)
             have q264 : x5_1 < (l1.length : Int) := of_decide_eq_true (by first | (with_reducible assumption) | assumption)
             obtain ⟨ad264, e264, hx264_0⟩ := Kd.at_int HR1.out x5_1 p264 q264
             cases e264
             replace p264 := eq_true p264
             replace q264 := eq_true q264
             go_wp2
             repeat (go_quiet (fail); try go_wp2)
             go_ret
             exact ⟨by first | rfl | (simp; done) | (simp [*]; done), by repeat (first | exact Drawn0.refl _ | apply Drawn0.step)⟩
         · rw [if_neg c6] at H
           exact absurd H (by simp)
       · rw [if_neg c5] at H
         exact absurd H (by simp)
     · rw [if_neg c4] at H
       have c4b0 : decide (x5_1 < (l0.length : Int)) = false := decide_eq_false c4
       clear c4
       obtain rfl := Option.some.inj H
       go_wp2
       repeat (go_quiet (fail); try go_wp2)
       go_ret
       exact ⟨by first | rfl | (simp; done) | (simp [*]; done), by repeat (first | exact Drawn0.refl _ | apply Drawn0.step)⟩
 · rw [if_neg c3] at H
   have c3b0 : ((l0.length : Int) == (l1.length : Int)) = false := beq_eq_false_iff_ne.mpr c3
   have c3b1 : ((l0.length : Int) != (l1.length : Int)) = true := bne_iff_ne.mpr c3
   have c3b2 : (l0.length == l1.length) = false := by first | simpa using c3 | (simp at c3 ⊢; omega)
   obtain rfl := Option.some.inj H
   go_enter Tryd.func7, Tryd.ntmps7
   go_wp2
   repeat (go_quiet (fail); try go_wp2)
   go_ret
   exact ⟨by first | rfl | (simp; done) | (simp [*]; done), by repeat (first | exact Drawn0.refl _ | apply Drawn0.step)⟩

end Go.Proofs.YtefbphpgaeffaaaDoor.A

/- impl.LongestPath: the longest way by unit gifts, each list's told once in a map. -/
namespace Go.Proofs.YtefbphpgaeffaaaDoor.A
open Go.RowKit Go.Proofs.YtefbphpgaeffaaaDoorW.PrintWords Go.Proofs.YtefbphpgaeffaaaDoorW.PrintLast Go.Proofs.YtefbphpgaeffaaaDoorW.PrintMore
attribute [local go_sem] max2_int min2_int max_two min_two max_three min_three max_four min_four
set_option linter.unusedVariables false
set_option linter.unusedSimpArgs false

theorem mx_hi {n q s : Int} (e : q = s) (h : n < q) : q = max n s := by omega
theorem mx_lo {n q s : Int} (e : q = s) (h : q ≤ n) : n = max n s := by omega
theorem allU_desc {x a : List Int} (hx : goodL x = true) : allU x (descL a) 0 x.length = allU x a 0 x.length := by
 rw [allU_ug _ _ hx, allU_ug _ _ hx]
 congr 1
 funext z
 exact maj_desc_l a z
theorem mx_take (a : List Int) (zs : List (List Int)) {j : Nat} (hj : j < zs.length) : max (((zs.take j).map fun z => 1 + lp a z).foldl max 0) (1 + lp a zs[j]) = ((zs.take (j + 1)).map fun z => 1 + lp a z).foldl max 0 := by
 rw [List.take_add_one, List.getElem?_eq_getElem hj, Option.toList_some, List.map_append, List.foldl_append]
 rfl
set_option maxHeartbeats 8000000 in
set_option maxRecDepth 100000 in
theorem long_calls (a b : List Int) (hb : betB a b = true) (h20 : b.sum ≤ 20) (yl : List Int) (hyl : yl = descL a) (Ay : Option Addr) (cy : Nat) (w0 : World) (M By Bk Bl : Nat) (hM : M < w0.heap.size)
 (hY : ∀ W', KeepBut w0 W' M none → Kd.C (Kd.int .i64) W' Ay yl.length yl) (hcy : yl.length ≤ cy)
 (hby : w0.cell? ⟨By, 0, none⟩ = some (.slice Ay yl.length cy)) (nby : By ≠ M) (hbk : w0.cell? ⟨Bk, 0, none⟩ = some (.map (some M))) (nbk : Bk ≠ M)
 (hbl : w0.cell? ⟨Bl, 0, none⟩ = some (.func (.func 14) #[] #[.pointer (some ⟨Bk, 0, none⟩), .pointer (some ⟨By, 0, none⟩), .pointer (some ⟨Bl, 0, none⟩)])) (nbl : Bl ≠ M) :
 ∀ (m : Nat) (x : List Int) (S : List (List Int)) (A : Option Addr) (c : Nat) (W : World), x ∈ btwL a b → sqS x < m → GB w0 W M → LI a b M S W → (∀ W', KeepBut W W' M none → Kd.C (Kd.int .i64) W' A x.length x) → x.length ≤ c →
  Calls Tryd.prog 14 #[.slice A x.length c, .pointer (some ⟨Bk, 0, none⟩), .pointer (some ⟨By, 0, none⟩), .pointer (some ⟨Bl, 0, none⟩)] W fun e w' => e = .returned (.int .i64 (lp a x)) ∧ GB W w' M ∧ ∃ S2, LI a b M S2 w' ∧ ∀ y ∈ S2, y ∈ S ∨ sqS y ≤ sqS x := by
 have EGP := Aside0.mk (show ∀ args w, (callFunc 14 args).run Tryd.prog w = .ok (.enter 14 args) w from fun args w => enters_ Tryd.func14 (by kernel_rfl) rfl args w)
 have HY := Aside0.mk hY
 have HBY := Aside0.mk hby
 have HBK := Aside0.mk hbk
 have HBL := Aside0.mk hbl
 have HCY := Aside0.mk hcy
 have HMX := Aside0.mk hM
 have HYL := Aside0.mk hyl
 clear hY hby hbk hbl hcy hM hyl
 intro m
 induction m with
 | zero =>
  intro x S A c W hx hm
  have hg := ((btw_mem hb h20).1 hx).1
  have := (sqS_nn hg).1
  omega
 | succ m ih =>
  intro x S A c W hx hm hk hi hC hc
  have HIH := Aside0.mk ih
  clear ih
  have hg := ((btw_mem hb h20).1 hx).1
  have hfew := good_few hg
  obtain ⟨kt, hkt⟩ := Ev.get (listText_ev x (by omega) hfew.2)
  have HT := Aside0.mk hkt
  have HLK := Aside0.mk (fun W' hW => li_look hb h20 hi hx W' hW)
  have x0 := lw_keep (gb_keep hk) HBK.out nbk
  have x1 := lw_keep (gb_keep hk) HBY.out nby
  have x2 := lw_keep (gb_keep hk) HBL.out nbl
  have HK := Aside0.mk hk
  have HI := Aside0.mk hi
  have HC := Aside0.mk hC
  have HCC := Aside0.mk hc
  have HX := Aside0.mk hx
  have HM := Aside0.mk hm
  have HBW := Aside0.mk (Below.refl W.heap.size W)
  clear hkt hk hi hC hc hx hm
  by_cases hS : x ∈ S
  · rw [if_pos hS, decide_eq_true hS] at HLK
    go_enter Tryd.func14, Tryd.ntmps14
    go_wp2
    go_region_law ((with_reducible refine gateS_ 13 rfl ?_); refine goes_ Tryd.func15 (by kernel_rfl) rfl #[.slice A x.length c] (by rfl) rfl rfl (by first | (simp [Act.eval, Act.put]; done) | rfl | (go_simp; done) | (go_simp; rfl)) ?_; (refine (impl_listText.calls kt A c x (textB x) _ ?side1 ?side2 HT.out).mono ?_); (case side1 => exact HC.out _ (gb_keep (gb_below (by repeat (first | (with_reducible first | exact HBW.out | apply below_alloc | apply pw_below_drewN | apply below_drew1) | exact HBW.out))))); (case side2 => exact HCC.out); rintro e w1 ⟨rfl, hb1⟩; refine ⟨_, rfl, ?_⟩; (have hbw := below_step (by repeat (first | (with_reducible first | exact HBW.out | apply below_alloc | apply pw_below_drewN | apply below_drew1) | exact HBW.out)) hb1); have hrun := HLK.out w1 hbw; have z0 := lw_bx hbw x0; have HB1 := Aside0.mk hbw; clear hb1 hbw)
    all_goals
     go_wp2
     go_ret
     exact ⟨rfl, gb_below HB1.out, S, li_below HI.out HB1.out, fun y hy => Or.inl hy⟩
  · rw [if_neg hS, decide_eq_false hS] at HLK
    have HNS := Aside0.mk hS
    clear hS
    obtain ⟨ku, hku⟩ := Ev.get (unitsFrom_ev x yl hg (by rw [HYL.out]; exact good_sm (by rw [good_desc]; exact ((betB_iff a b).1 hb).1)))
    rw [show allU x yl 0 x.length = allU x a 0 x.length by rw [HYL.out]; exact allU_desc hg] at hku
    obtain ⟨zs, hzs⟩ : ∃ zs, zs = allU x a 0 x.length := ⟨_, rfl⟩
    rw [← hzs] at hku
    have HU := Aside0.mk hku
    have HZS := Aside0.mk hzs
    have hfold : lp a x = (zs.map fun z => 1 + lp a z).foldl max 0 := by
     rw [hzs]
     exact lp_step hg
    have HF := Aside0.mk hfold
    have hzl : zs.length ≤ 1000 := by
     rw [hzs]
     have h1 := allU_le x a x.length 0
     have h2 : x.length * x.length ≤ 8 * 8 := Nat.mul_le_mul (by omega) (by omega)
     omega
    clear hku hzs hfold
    go_enter Tryd.func14, Tryd.ntmps14
    go_wp2
    go_region_law ((with_reducible refine gateS_ 13 rfl ?_); refine goes_ Tryd.func15 (by kernel_rfl) rfl #[.slice A x.length c] (by rfl) rfl rfl (by first | (simp [Act.eval, Act.put]; done) | rfl | (go_simp; done) | (go_simp; rfl)) ?_; (refine (impl_listText.calls kt A c x (textB x) _ ?side1 ?side2 HT.out).mono ?_); (case side1 => exact HC.out _ (gb_keep (gb_below (by repeat (first | (with_reducible first | exact HBW.out | apply below_alloc | apply pw_below_drewN | apply below_drew1) | exact HBW.out))))); (case side2 => exact HCC.out); rintro e w1 ⟨rfl, hb1⟩; refine ⟨_, rfl, ?_⟩; (have hbw := below_step (by repeat (first | (with_reducible first | exact HBW.out | apply below_alloc | apply pw_below_drewN | apply below_drew1) | exact HBW.out)) hb1); have hrun := HLK.out w1 hbw; have z0 := lw_bx hbw x0; have z1 := lw_bx hbw x1; have z2 := lw_bx hbw x2; have HB1 := Aside0.mk hbw; clear hb1 hbw)
    all_goals
     go_wp2_with ((with_reducible refine gate_callee (f := 16) rfl ?_); refine goesL_ (some 21) rfl rfl Tryd.func16 (by kernel_rfl) rfl #[.slice A x.length c, .slice Ay yl.length cy] rfl (by (try simp only [List.map_toArray, List.map_cons, List.map_nil]); first | done | rfl | (simp only [List.length_drop, List.length_take]; rfl)) ?_; (refine (impl_unitsFrom.calls ku A c x Ay cy yl zs _ ?side1 ?side2 ?side3 ?side4 HU.out).mono ?_); (case side1 => exact HC.out _ (gb_keep (gb_below HB1.out))); (case side2 => exact HCC.out); (case side3 => exact HY.out _ (gb_keep (gb_trans HK.out (gb_below HB1.out)))); (case side4 => exact HCY.out); rintro e w2 ⟨v21, rfl, ho, hb2⟩; refine ⟨_, rfl, ?_⟩; (have hbw := below_step HB1.out hb2); (obtain ⟨Az, cz, rfl⟩ := Kd.S_slice ho); (have HZ := Aside0.mk (show ∀ W', KeepBut w2 W' M none → Kd.C (Kd.slice 3 (Kd.int .i64)) W' Az zs.length zs from fun W' hk' => (Kd.S_reads' (Kd.S_keep (Kd.S_mono (ok' := fun k => W.heap.size ≤ k) (Kd.S_bound ho) (fun k h => Nat.le_trans HB1.out.size h.2.1)) hk' (fun k h e => by have h1 := HMX.out; have h2 := HK.out.size; subst e; omega))).2.2)); have y0 := lw_bx hb2 z0; have y2 := lw_bx hb2 z2; have HB2 := Aside0.mk hbw; clear ho hb2 hbw)
     go_loopg [6, 23] zs.length (fun gg v6 v23 wr => ∃ (j : Nat) (S2 : List (List Int)) (n : Int), v6 = .int .i64 n ∧ v23 = .int .i64 (j : Int) ∧ j ≤ zs.length ∧ zs.length - j ≤ gg ∧ Aside0 (n = ((zs.take j).map fun z => 1 + lp a z).foldl max 0) ∧ Aside0 (GB w2 wr M) ∧ Aside0 (LI a b M S2 wr) ∧ Aside0 (∀ y ∈ S2, y ∈ S ∨ sqS y < sqS x))
     case atStart => exact ⟨0, S, 0, by first | rfl | (simp; done), rfl, Nat.zero_le _, by omega, ⟨rfl⟩, ⟨by repeat (first | exact gb_refl _ _ | apply gb_drewN)⟩, ⟨by first | exact li_below HI.out HB2.out | exact li_below HI.out (pw_below_drewN HB2.out _)⟩, ⟨fun y hy => Or.inl hy⟩⟩
     case round =>
      obtain ⟨j, S2, n, rfl, rfl, hj, hg', HN2, HG2, HI2, HS2⟩ := hrel
      have u0 := lw_keep (gb_keep HG2.out) y0 nbk
      have u2 := lw_keep (gb_keep HG2.out) y2 nbl
      by_cases hlt : j < zs.length
      · have c0 : decide ((j : Int) < (zs.length : Int)) = true := decide_eq_true (by omega)
        have q0 : (0 ≤ (j : Int)) = True := eq_true (by omega)
        have q1 : ((j : Int) < (zs.length : Int)) = True := eq_true (by omega)
        obtain ⟨ad, Ar, cr, hA, hcr, hrow⟩ := lw_row HZ.out (j : Int) (by omega) (by omega)
        subst hA
        have xz := (hrow wr (gb_keep HG2.out)).1
        rw [Int.toNat_natCast] at xz
        have hz : rd_L1 zs (j : Int) = zs[j] := rd_L1n hlt
        have hmem : zs[j] ∈ allU x a 0 x.length := by rw [← HZS.out]; exact List.getElem_mem hlt
        obtain ⟨hst, hmz⟩ := allU_stp hg hmem
        have hbx := (btw_mem hb h20).1 HX.out
        have hin : zs[j] ∈ btwL a b := (btw_mem hb h20).2 ⟨hst.good, hst.desc, maj_trans hst.maj hbx.2.2.1, hmz⟩
        have hzn := lp_nn (a := a) hst.good
        have hzb := lp_le (a := a) hst.good
        have hfall := hst.fall
        have hmt := mx_take a zs hlt
        rw [← hz] at hin hzn hzb hfall hmt
        generalize rd_L1 zs (j : Int) = z at *
        have hN2 := HN2.out
        have HROW := Aside0.mk hrow
        have HIN := Aside0.mk hin
        have HFA := Aside0.mk hfall
        have HMT := Aside0.mk hmt
        have HCR := Aside0.mk hcr
        have hmm := HM.out
        have HWZ := Aside0.mk (show wrap64 (1 + lp a z) = 1 + lp a z from w64 (by omega) (by omega))
        clear hrow hin hfall hmt hcr hmem hst hmz hbx hzn hzb hz hN2 hmm
        go_wp2_with ((with_reducible refine gate_dst (N := 30) rfl ?_); refine goesF_ (some 30) rfl rfl 28 14 #[.pointer (some ⟨Bk, 0, none⟩), .pointer (some ⟨By, 0, none⟩), .pointer (some ⟨Bl, 0, none⟩)] EGP.out #[.slice Ar z.length cr] rfl rfl (by (try simp only [List.map_toArray, List.map_cons, List.map_nil]); first | done | rfl) ?_; (refine (HIH.out z S2 Ar cr wr HIN.out (by have h1 := HM.out; have h2 := HFA.out; omega) (gb_trans HK.out (gb_trans (gb_below HB2.out) HG2.out)) HI2.out (fun W' hk' => (HROW.out W' (KeepBut.trans (gb_keep HG2.out) hk' (by simp))).2) HCR.out).mono ?_); rintro e w3 ⟨rfl, hg3, S3, hl3, hs3⟩; refine ⟨_, rfl, ?_⟩; have HG3 := Aside0.mk hg3; have HI3 := Aside0.mk hl3; have HS3 := Aside0.mk hs3; clear hg3 hl3 hs3)
        all_goals
         go_roundg (zs.length - (j + 1))
         case measure => omega
         case rel => exact ⟨j + 1, S3, _, rfl, by go_num, by omega, by omega, ⟨by rw [← HMT.out, ← HN2.out]; first | exact mx_hi HWZ.out (by assumption) | exact mx_lo HWZ.out (by assumption)⟩, ⟨by repeat (first | exact gb_trans HG2.out HG3.out | apply gb_drewN)⟩, ⟨HI3.out⟩, ⟨fun y hy => by have h3 := HFA.out; rcases HS3.out y hy with h | h; exact HS2.out y h; exact Or.inr (by omega)⟩⟩
      · have c0 : decide ((j : Int) < (zs.length : Int)) = false := decide_eq_false (by omega)
        have e : j = zs.length := by omega
        have hn : n = lp a x := by rw [HN2.out, HF.out, e, List.take_length]
        subst hn
        have HNX := Aside0.mk (show x ∉ S2 from fun h => by rcases HS2.out x h with h | h; exact HNS.out h; exact absurd h (by omega))
        have HPUT := Aside0.mk (fun W' hW => li_put hb h20 HI2.out HX.out HNX.out W' hW)
        have HBR := Aside0.mk (Below.refl wr.heap.size wr)
        clear e HN2
        go_wp2
        go_region_law ((with_reducible refine gateS_ 36 rfl ?_); refine goes_ Tryd.func15 (by kernel_rfl) rfl #[.slice A x.length c] (by rfl) rfl rfl (by first | (simp [Act.eval, Act.put]; done) | rfl | (go_simp; done) | (go_simp; rfl)) ?_; (refine (impl_listText.calls kt A c x (textB x) _ ?side1 ?side2 HT.out).mono ?_); (case side1 => exact HC.out _ (gb_keep (gb_trans (gb_below HB2.out) (gb_trans HG2.out (gb_below (by repeat (first | (with_reducible first | exact HBR.out | apply below_alloc | apply pw_below_drewN | apply below_drew1) | exact HBR.out))))))); (case side2 => exact HCC.out); rintro e w4 ⟨rfl, hb4⟩; refine ⟨_, rfl, ?_⟩; (have hbr := below_step (by repeat (first | (with_reducible first | exact HBR.out | apply below_alloc | apply pw_below_drewN | apply below_drew1) | exact HBR.out)) hb4); (obtain ⟨w5, hput, hl5, hg5⟩ := HPUT.out w4 hbr); have v0 := lw_bx hbr u0; have HB4 := Aside0.mk hbr; have HI5 := Aside0.mk hl5; have HG5 := Aside0.mk hg5; clear hb4 hbr hl5 hg5)
        all_goals
         go_wp2
         go_ret
         exact ⟨rfl, gb_trans (gb_below HB2.out) (gb_trans HG2.out (gb_trans (gb_below HB4.out) HG5.out)), x :: S2, HI5.out, fun y hy => by
          rcases List.mem_cons.1 hy with h | h
          · exact Or.inr (by rw [h]; exact Int.le_refl _)
          · rcases HS2.out y h with h | h
            · exact Or.inl h
            · exact Or.inr (by omega)⟩
end Go.Proofs.YtefbphpgaeffaaaDoor.A

/- impl.LongestPath: the map, the boxes, the call of the closure. -/
namespace Go.Proofs.YtefbphpgaeffaaaDoor.A
open Go.RowKit Go.Proofs.YtefbphpgaeffaaaDoorW.PrintWords Go.Proofs.YtefbphpgaeffaaaDoorW.PrintLast Go.Proofs.YtefbphpgaeffaaaDoorW.PrintMore
attribute [local go_sem] max2_int min2_int max_two min_two max_three min_three max_four min_four
set_option linter.unusedVariables false
set_option linter.unusedSimpArgs false

def impl_LongestPath.f (l0 : List Int) (l1 : List Int) : Option (Int × Bool) := if l0.length ≤ 1048576 ∧ l1.length ≤ 1048576 then some (lpR l0 l1) else none
def lwW (w2 : World) (v : Value) : World := (((w2.alloc (.map #[] 0)).alloc (.cells #[v] 22)).alloc (.cells #[.map (some w2.heap.size)] 29)).alloc (.cells #[.func (.func 14) #[] #[.pointer (some ⟨w2.heap.size + 1 + 1, 0, none⟩), .pointer (some ⟨w2.heap.size + 1, 0, none⟩), .pointer (some ⟨w2.heap.size + 1 + 1 + 1, 0, none⟩)]] 27)
theorem lwW_below (w2 : World) (v : Value) : Below w2.heap.size w2 (lwW w2 v) := by
 unfold lwW
 repeat (first | exact Below.refl _ _ | apply below_alloc)
theorem lwW_y (w2 : World) (v : Value) : (lwW w2 v).cell? ⟨w2.heap.size + 1, 0, none⟩ = some v := by
 unfold lwW
 simp [go_sem]
theorem lwW_k (w2 : World) (v : Value) : (lwW w2 v).cell? ⟨w2.heap.size + 1 + 1, 0, none⟩ = some (.map (some w2.heap.size)) := by
 unfold lwW
 simp [go_sem]
theorem lwW_l (w2 : World) (v : Value) : (lwW w2 v).cell? ⟨w2.heap.size + 1 + 1 + 1, 0, none⟩ = some (.func (.func 14) #[] #[.pointer (some ⟨w2.heap.size + 1 + 1, 0, none⟩), .pointer (some ⟨w2.heap.size + 1, 0, none⟩), .pointer (some ⟨w2.heap.size + 1 + 1 + 1, 0, none⟩)]) := by
 unfold lwW
 simp [go_sem]
theorem lwW_size (w2 : World) (v : Value) : w2.heap.size < (lwW w2 v).heap.size := by
 unfold lwW
 simp
 omega
theorem lwW_li (a b : List Int) (w2 : World) (v : Value) : LI a b w2.heap.size [] (lwW w2 v) := by
 have h : LI a b w2.heap.size [] (w2.alloc (.map #[] 0)) := ⟨.map [], km_start a b, World.ownsMap_made _ _ _ _⟩
 refine li_below h ?_
 unfold lwW
 repeat (first | exact Below.refl _ _ | apply below_alloc)
set_option maxHeartbeats 8000000 in
set_option maxRecDepth 100000 in
theorem impl_LongestPath.calls (A0 : Option Addr) (c0 : Nat) (l0 : List Int) (A1 : Option Addr) (c1 : Nat) (l1 : List Int) (r1 : Int) (r2 : Bool) (w : World) (hr0 : Kd.C (Kd.int .i64) w A0 l0.length l0) (hc0 : l0.length ≤ c0) (hr1 : Kd.C (Kd.int .i64) w A1 l1.length l1) (hc1 : l1.length ≤ c1) (h : impl_LongestPath.f l0 l1 = some (r1, r2)) :
 Calls Tryd.prog 6 #[.slice A0 l0.length c0, .slice A1 l1.length c1] w fun e w' => e = .returned (.tuple #[.int .i64 r1, .bool r2]) ∧ Below w.heap.size w w' := by
 unfold impl_LongestPath.f at h
 split at h
 next hl =>
  have hR := Option.some.inj h
  obtain ⟨kb, hkb⟩ := Ev.get (isBetween_ev l0 l1 hl.1 hl.2)
  have hmm := @run_makeMap Tryd.prog
  have HR0 := Aside0.mk hr0
  have HC0 := Aside0.mk hc0
  have HR1 := Aside0.mk hr1
  have HC1 := Aside0.mk hc1
  have HB := Aside0.mk (Below.refl w.heap.size w)
  clear hr0 hr1 hc0 hc1 h
  unfold lpR at hR
  by_cases hb : betB l0 l1 = true
  · rw [if_pos hb] at hR
    rw [hb] at hkb
    have HKB := Aside0.mk hkb
    have hs1 := good_sm ((betB_iff l0 l1).1 hb).2.1
    have hs0 := good_sm ((betB_iff l0 l1).1 hb).1
    obtain ⟨ks, hks⟩ := Ev.get (total_ev l1 hs1)
    have HKS := Aside0.mk hks
    clear hkb hks
    by_cases h20 : l1.sum ≤ 20
    · rw [if_pos h20] at hR
      obtain ⟨rfl, rfl⟩ : lp l0 (descL l1) = r1 ∧ true = r2 := by simpa using hR
      clear hR
      have t20 : decide (l1.sum > 20) = false := decide_eq_false (by omega)
      have HRK0 := Aside0.mk (ranking_eq hs0)
      have HRK1 := Aside0.mk (ranking_eq hs1)
      have HBT := Aside0.mk hb
      have H20 := Aside0.mk h20
      have HMEM := Aside0.mk (show descL l1 ∈ btwL l0 l1 from (btw_mem hb h20).2 ⟨by rw [good_desc]; exact ((betB_iff l0 l1).1 hb).2.1, descL_desc l1, by rw [maj_desc_l]; exact maj_refl l1, by rw [majB_descR]; exact ((betB_iff l0 l1).1 hb).2.2⟩)
      have HSQ := Aside0.mk (show sqS (descL l1) < (28801 : Nat) from by have := (sqS_nn (p := descL l1) (by rw [good_desc]; exact ((betB_iff l0 l1).1 hb).2.1)).2; omega)
      clear hs0 hs1 hl hb h20
      go_enter Tryd.func6, Tryd.ntmps6
      go_upto_region 6 with (first | ((with_reducible refine gate_callee (f := 11) rfl ?_); refine goesL_ (some 11) rfl rfl Tryd.func11 (by kernel_rfl) rfl #[.slice A0 l0.length c0, .slice A1 l1.length c1] rfl (by (try simp only [List.map_toArray, List.map_cons, List.map_nil]); first | done | rfl | (simp only [List.length_drop, List.length_take]; rfl)) ?_; (refine (impl_isBetween.calls kb A0 c0 l0 A1 c1 l1 true _ ?side1 ?side2 ?side3 ?side4 HKB.out).mono ?_); (case side1 => exact HR0.out); (case side2 => exact HC0.out); (case side3 => exact HR1.out); (case side4 => exact HC1.out); rintro e w1 ⟨rfl, hb1⟩; refine ⟨_, rfl, ?_⟩; have HB1 := Aside0.mk hb1; clear hb1) | (go_at_call 12; (refine (impl_total.calls ks A1 c1 l1 l1.sum _ ?side1 ?side2 HKS.out).mono ?_); (case side1 => exact Kd.C_below HR1.out HB1.out); (case side2 => exact HC1.out); rintro e w' ⟨rfl, ⟨nd, rfl⟩⟩) | ((with_reducible refine gate_callee (f := 13) rfl ?_); refine goesL_ (some 19) rfl rfl Tryd.func13 (by kernel_rfl) rfl #[.slice A0 l0.length c0] rfl (by (try simp only [List.map_toArray, List.map_cons, List.map_nil]); first | done | rfl | (simp only [List.length_drop, List.length_take]; rfl)) ?_; (refine (impl_ranking.calls A0 c0 l0 (descL l0) _ ?side1 ?side2 HRK0.out).mono ?_); (case side1 => exact Kd.C_below HR0.out (by repeat (first | (with_reducible first | exact HB1.out | apply below_alloc | apply pw_below_drewN | apply below_drew1) | exact HB1.out))); (case side2 => exact HC0.out); rintro e w2 ⟨v19, rfl, ho, hb2⟩; refine ⟨_, rfl, ?_⟩; (have hbw := below_step (by repeat (first | (with_reducible first | exact HB1.out | apply below_alloc | apply pw_below_drewN | apply below_drew1) | exact HB1.out)) hb2); (obtain ⟨Ay, cy, rfl⟩ := Kd.R_slice ho); have HO := Aside0.mk ho; have HB2 := Aside0.mk hbw; clear ho hb2 hbw))
      have hw3 := lwW_below w2 (.slice Ay (descL l0).length cy)
      have xy := lwW_y w2 (.slice Ay (descL l0).length cy)
      have xk := lwW_k w2 (.slice Ay (descL l0).length cy)
      have xl := lwW_l w2 (.slice Ay (descL l0).length cy)
      have hsz := lwW_size w2 (.slice Ay (descL l0).length cy)
      have hli := lwW_li l0 l1 w2 (.slice Ay (descL l0).length cy)
      change Code.wp Tryd.prog _ _ _ (lwW w2 (.slice Ay (descL l0).length cy))
      generalize lwW w2 (.slice Ay (descL l0).length cy) = W3 at *
      have HY := Aside0.mk (show ∀ W', KeepBut W3 W' w2.heap.size none → Kd.C (Kd.int .i64) W' Ay (descL l0).length (descL l0) from fun W' hk' => (Kd.R_reads' (Kd.R_keep (Kd.R_mono (ok' := fun k => k < w2.heap.size) (Kd.R_bound (HO.out)) (fun k h => h.2.2.1)) ((KeepBut.of_below hw3 w2.heap.size none).trans hk' (.inl rfl)) (fun k h e => by omega))).2.2)
      have HCY := Aside0.mk (Kd.R_reads' HO.out).2.1
      have XY := Aside0.mk xy
      have XK := Aside0.mk xk
      have XL := Aside0.mk xl
      have HSZ := Aside0.mk hsz
      have HLI := Aside0.mk hli
      have HW3 := Aside0.mk (below_step HB2.out hw3)
      have HBW := Aside0.mk (Below.refl W3.heap.size W3)
      have EGP := Aside0.mk (show ∀ args w, (callFunc 14 args).run Tryd.prog w = .ok (.enter 14 args) w from fun args w => enters_ Tryd.func14 (by kernel_rfl) rfl args w)
      clear hw3 xy xk hsz hli HO
      go_region_law (first | ((with_reducible refine gateS_ 24 rfl ?_); refine goes_ Tryd.func13 (by kernel_rfl) rfl #[.slice A1 l1.length c1] (by rfl) rfl rfl (by first | (simp [Act.eval, Act.put]; done) | rfl | (go_simp; done) | (go_simp; rfl)) ?_; (refine (impl_ranking.calls A1 c1 l1 (descL l1) _ ?side1 ?side2 HRK1.out).mono ?_); (case side1 => exact Kd.C_below HR1.out (below_step HW3.out (by repeat (first | (with_reducible first | exact HBW.out | apply below_alloc | apply pw_below_drewN | apply below_drew1) | exact HBW.out)))); (case side2 => exact HC1.out); rintro e w4 ⟨v24, rfl, ho, hb4⟩; refine ⟨_, rfl, ?_⟩; (have hbw := below_step (by repeat (first | (with_reducible first | exact HBW.out | apply below_alloc | apply pw_below_drewN | apply below_drew1) | exact HBW.out)) hb4); (obtain ⟨Ax, cx, rfl⟩ := Kd.R_slice ho); have z3 := lw_bx hbw xl; have HO4 := Aside0.mk (show Kd.R (Kd.int .i64) 3 w4 W3.heap.size (fun _ => True) (.slice Ax (descL l1).length cx) (descL l1) from Kd.R_lower ho (below_size (by repeat (first | (with_reducible first | exact HBW.out | apply below_alloc | apply pw_below_drewN | apply below_drew1) | exact HBW.out)))); have HB4 := Aside0.mk hbw; clear ho hb4 hbw) | ((with_reducible refine gateS_ 25 rfl ?_); refine goesFS_ (some 25) 22 14 #[.pointer (some ⟨w2.heap.size + 1 + 1, 0, none⟩), .pointer (some ⟨w2.heap.size + 1, 0, none⟩), .pointer (some ⟨w2.heap.size + 1 + 1 + 1, 0, none⟩)] EGP.out #[.slice Ax (descL l1).length cx] (by rfl) rfl rfl (by first | (simp [Act.eval, Act.put]; done) | rfl | (go_simp; done) | (go_simp; rfl)) (by first | (simp [Act.eval, Act.put]; done) | rfl | (go_simp; done) | (go_simp; rfl)) ?_; (refine (long_calls l0 l1 HBT.out H20.out (descL l0) rfl Ay cy W3 w2.heap.size (w2.heap.size + 1) (w2.heap.size + 1 + 1) (w2.heap.size + 1 + 1 + 1) HSZ.out HY.out HCY.out XY.out (by omega) XK.out (by omega) XL.out (by omega) 28801 (descL l1) [] Ax cx w4 ?side1 ?side2 (gb_below HB4.out) (li_below HLI.out HB4.out) ?side3 (Kd.R_reads' HO4.out).2.1).mono ?_); (case side1 => exact HMEM.out); (case side2 => exact HSQ.out); (case side3 => exact fun W' hk' => (Kd.R_reads' (Kd.R_keep (Kd.R_mono (ok' := fun k => W3.heap.size ≤ k) (Kd.R_bound HO4.out) (fun k h => h.2.1)) hk' (fun k h e => by have := HSZ.out; omega))).2.2); rintro e w5 ⟨rfl, hg5, S5, hl5, hs5⟩; refine ⟨_, rfl, ?_⟩; have HG5 := Aside0.mk hg5; clear hg5 hl5 hs5))
      all_goals
       go_wp2
       go_ret2
       exact ⟨rfl, below_gb (below_step HW3.out HB4.out) HG5.out HB2.out.size⟩
    · rw [if_neg h20] at hR
      obtain ⟨rfl, rfl⟩ : (0 : Int) = r1 ∧ false = r2 := by simpa using hR
      clear hR
      have t20 : decide (l1.sum > 20) = true := decide_eq_true (by omega)
      clear hs0 hs1 hl hb h20
      go_enter Tryd.func6, Tryd.ntmps6
      go_wp2_with (first | ((with_reducible refine gate_callee (f := 11) rfl ?_); refine goesL_ (some 11) rfl rfl Tryd.func11 (by kernel_rfl) rfl #[.slice A0 l0.length c0, .slice A1 l1.length c1] rfl (by (try simp only [List.map_toArray, List.map_cons, List.map_nil]); first | done | rfl | (simp only [List.length_drop, List.length_take]; rfl)) ?_; (refine (impl_isBetween.calls kb A0 c0 l0 A1 c1 l1 true _ ?side1 ?side2 ?side3 ?side4 HKB.out).mono ?_); (case side1 => exact HR0.out); (case side2 => exact HC0.out); (case side3 => exact HR1.out); (case side4 => exact HC1.out); rintro e w1 ⟨rfl, hb1⟩; refine ⟨_, rfl, ?_⟩; have HB1 := Aside0.mk hb1; clear hb1) | (go_at_call 12; (refine (impl_total.calls ks A1 c1 l1 l1.sum _ ?side1 ?side2 HKS.out).mono ?_); (case side1 => exact Kd.C_below HR1.out HB1.out); (case side2 => exact HC1.out); rintro e w' ⟨rfl, ⟨nd, rfl⟩⟩))
      go_ret2
      exact ⟨rfl, (by repeat (first | (with_reducible first | exact HB1.out | apply below_alloc | apply pw_below_drewN | apply below_drew1) | exact HB1.out))⟩
  · rw [if_neg hb] at hR
    rw [Bool.eq_false_iff.2 hb] at hkb
    have HKB := Aside0.mk hkb
    obtain ⟨rfl, rfl⟩ : (0 : Int) = r1 ∧ false = r2 := by simpa using hR
    clear hR hkb hl hb
    go_enter Tryd.func6, Tryd.ntmps6
    go_wp2_with ((with_reducible refine gate_callee (f := 11) rfl ?_); refine goesL_ (some 11) rfl rfl Tryd.func11 (by kernel_rfl) rfl #[.slice A0 l0.length c0, .slice A1 l1.length c1] rfl (by (try simp only [List.map_toArray, List.map_cons, List.map_nil]); first | done | rfl | (simp only [List.length_drop, List.length_take]; rfl)) ?_; (refine (impl_isBetween.calls kb A0 c0 l0 A1 c1 l1 false _ ?side1 ?side2 ?side3 ?side4 HKB.out).mono ?_); (case side1 => exact HR0.out); (case side2 => exact HC0.out); (case side3 => exact HR1.out); (case side4 => exact HC1.out); rintro e w1 ⟨rfl, hb1⟩; refine ⟨_, rfl, ?_⟩; have HB1 := Aside0.mk hb1; clear hb1)
    go_ret2
    exact ⟨rfl, (by repeat (first | (with_reducible first | exact HB1.out | apply below_alloc | apply pw_below_drewN | apply below_drew1) | exact HB1.out))⟩
 next => cases h
end Go.Proofs.YtefbphpgaeffaaaDoor.A

-- made by a program of this repo (wip/pp.py) through the kit's printer
namespace Go.Proofs.YtefbphpgaeffaaaDoor.A
open Go.RowKit Go.Proofs.YtefbphpgaeffaaaDoorW.PrintWords Go.Proofs.YtefbphpgaeffaaaDoorW.PrintLast Go.Proofs.YtefbphpgaeffaaaDoorW.PrintMore
attribute [local go_sem] max2_int min2_int max_two min_two max_three min_three max_four min_four
set_option linter.unusedVariables false
set_option linter.unusedSimpArgs false

/-! ### laws_FnExactLongestPath: function 3 -/
def laws_FnExactLongestPath.j0 : Nat → List Int → List Int → List Int → List Int → Bool → Option (Bool)
 | 0, _, _, _, _, _ => none
 | k + 1, x0, x1, x7, x8, x42 => if x42 = true then (some false) else ((laws_toIntS.f k x0).bind fun t281 => ((laws_eqIntS.f k x7 t281).bind fun t284 => (if t284 = true then ((laws_toIntS.f k x1).bind fun t285 => ((laws_eqIntS.f k x8 t285).bind fun t288 => (if t288 = true then (some true) else (some false)))) else (some false))))
def laws_FnExactLongestPath.f (k : Nat) (l0 : List Int) (l1 : List Int) : Option (Bool) := if (l0.length : Int) > 1048576 then (some true) else (if (l1.length : Int) > 1048576 then (some true) else ((laws_toIntS.f k l0).bind fun t265 => ((laws_toIntS.f k l1).bind fun t268 => ((spec_LongestPath.f k t265 t268).bind fun bt271 => ((laws_toIntS.f k l0).bind fun t273 => ((laws_toIntS.f k l1).bind fun t276 => ((impl_LongestPath.f t273 t276).bind fun bt279 => (if bt279.1 = bt271.1 then (laws_FnExactLongestPath.j0 k l0 l1 t273 t276 (bt279.2 != bt271.2)) else (laws_FnExactLongestPath.j0 k l0 l1 t273 t276 true)))))))))
set_option maxHeartbeats 8000000 in
set_option maxRecDepth 100000 in
theorem laws_FnExactLongestPath.calls (k : Nat) (A0 : Option Addr) (c0 : Nat) (l0 : List Int) (A1 : Option Addr) (c1 : Nat) (l1 : List Int) (r : Bool) (w : World) (hr0 : Kd.C (Kd.int .i64) w A0 l0.length l0) (hc0 : l0.length ≤ c0) (hr1 : Kd.C (Kd.int .i64) w A1 l1.length l1) (hc1 : l1.length ≤ c1) (h : laws_FnExactLongestPath.f k l0 l1 = some r) :
 Calls Tryd.prog 3 #[.slice A0 l0.length c0, .slice A1 l1.length c1] w fun e w' => e = .returned (.bool r) ∧ Below w.heap.size w w' := by
 have HR0 := Aside0.mk hr0
 have HC0 := Aside0.mk hc0
 clear hr0 hc0
 have HR1 := Aside0.mk hr1
 have HC1 := Aside0.mk hc1
 clear hr1 hc1
 have HB := Aside0.mk (Below.refl w.heap.size w)
 have H : (if (l0.length : Int) > 1048576 then (some true) else (if (l1.length : Int) > 1048576 then (some true) else ((laws_toIntS.f k l0).bind fun t265 => ((laws_toIntS.f k l1).bind fun t268 => ((spec_LongestPath.f k t265 t268).bind fun bt271 => ((laws_toIntS.f k l0).bind fun t273 => ((laws_toIntS.f k l1).bind fun t276 => ((impl_LongestPath.f t273 t276).bind fun bt279 => (if bt279.1 = bt271.1 then (laws_FnExactLongestPath.j0 k l0 l1 t273 t276 (bt279.2 != bt271.2)) else (laws_FnExactLongestPath.j0 k l0 l1 t273 t276 true)))))))))) = some r := h
 clear h
 by_cases c3 : (l0.length : Int) > 1048576
 · rw [if_pos c3] at H
   have c3b0 : decide (1048576 < (l0.length : Int)) = true := decide_eq_true c3
   have c3b1 : decide (1048576 < l0.length) = true := decide_eq_true (by omega)
   clear c3
   obtain rfl := Option.some.inj H
   go_enter Tryd.func3, Tryd.ntmps3
   go_wp2
   go_ret
   exact ⟨by first | rfl | (simp [errW_none, errW_some] <;> rfl) | (simp [*, errW_none, errW_some] <;> rfl), by repeat (first | (with_reducible first | exact HB.out | apply below_alloc | apply pw_below_drewN | apply below_drew1) | exact HB.out)⟩
 · rw [if_neg c3] at H
   have c3b0 : decide (1048576 < (l0.length : Int)) = false := decide_eq_false c3
   have c3b1 : decide (1048576 < l0.length) = false := decide_eq_false (by omega)
   clear c3
   by_cases c4 : (l1.length : Int) > 1048576
   · rw [if_pos c4] at H
     have c4b0 : decide (1048576 < (l1.length : Int)) = true := decide_eq_true c4
     have c4b1 : decide (1048576 < l1.length) = true := decide_eq_true (by omega)
     clear c4
     obtain rfl := Option.some.inj H
     go_enter Tryd.func3, Tryd.ntmps3
     go_wp2
     go_ret
     exact ⟨by first | rfl | (simp [errW_none, errW_some] <;> rfl) | (simp [*, errW_none, errW_some] <;> rfl), by repeat (first | (with_reducible first | exact HB.out | apply below_alloc | apply pw_below_drewN | apply below_drew1) | exact HB.out)⟩
   · rw [if_neg c4] at H
     have c4b0 : decide (1048576 < (l1.length : Int)) = false := decide_eq_false c4
     have c4b1 : decide (1048576 < l1.length) = false := decide_eq_false (by omega)
     clear c4
     replace H := Option.bind_eq_some_iff.mp H
     obtain ⟨t265, A50, H⟩ := H
     replace H : ((laws_toIntS.f k l1).bind fun t268 => ((spec_LongestPath.f k t265 t268).bind fun bt271 => ((laws_toIntS.f k l0).bind fun t273 => ((laws_toIntS.f k l1).bind fun t276 => ((impl_LongestPath.f t273 t276).bind fun bt279 => (if bt279.1 = bt271.1 then (laws_FnExactLongestPath.j0 k l0 l1 t273 t276 (bt279.2 != bt271.2)) else (laws_FnExactLongestPath.j0 k l0 l1 t273 t276 true))))))) = some r := H
     have A5 := Aside0.mk A50
     clear A50
     replace H := Option.bind_eq_some_iff.mp H
     obtain ⟨t268, A60, H⟩ := H
     replace H : ((spec_LongestPath.f k t265 t268).bind fun bt271 => ((laws_toIntS.f k l0).bind fun t273 => ((laws_toIntS.f k l1).bind fun t276 => ((impl_LongestPath.f t273 t276).bind fun bt279 => (if bt279.1 = bt271.1 then (laws_FnExactLongestPath.j0 k l0 l1 t273 t276 (bt279.2 != bt271.2)) else (laws_FnExactLongestPath.j0 k l0 l1 t273 t276 true)))))) = some r := H
     have A6 := Aside0.mk A60
     clear A60
     replace H := Option.bind_eq_some_iff.mp H
     obtain ⟨⟨t271, t272⟩, A70, H⟩ := H
     replace H : ((laws_toIntS.f k l0).bind fun t273 => ((laws_toIntS.f k l1).bind fun t276 => ((impl_LongestPath.f t273 t276).bind fun bt279 => (if bt279.1 = t271 then (laws_FnExactLongestPath.j0 k l0 l1 t273 t276 (bt279.2 != t272)) else (laws_FnExactLongestPath.j0 k l0 l1 t273 t276 true))))) = some r := H
     have A7 := Aside0.mk A70
     clear A70
     replace H := Option.bind_eq_some_iff.mp H
     obtain ⟨t273, A80, H⟩ := H
     replace H : ((laws_toIntS.f k l1).bind fun t276 => ((impl_LongestPath.f t273 t276).bind fun bt279 => (if bt279.1 = t271 then (laws_FnExactLongestPath.j0 k l0 l1 t273 t276 (bt279.2 != t272)) else (laws_FnExactLongestPath.j0 k l0 l1 t273 t276 true)))) = some r := H
     have A8 := Aside0.mk A80
     clear A80
     replace H := Option.bind_eq_some_iff.mp H
     obtain ⟨t276, A90, H⟩ := H
     replace H : ((impl_LongestPath.f t273 t276).bind fun bt279 => (if bt279.1 = t271 then (laws_FnExactLongestPath.j0 k l0 l1 t273 t276 (bt279.2 != t272)) else (laws_FnExactLongestPath.j0 k l0 l1 t273 t276 true))) = some r := H
     have A9 := Aside0.mk A90
     clear A90
     replace H := Option.bind_eq_some_iff.mp H
     obtain ⟨⟨t279, t280⟩, A100, H⟩ := H
     replace H : (if t279 = t271 then (laws_FnExactLongestPath.j0 k l0 l1 t273 t276 (t280 != t272)) else (laws_FnExactLongestPath.j0 k l0 l1 t273 t276 true)) = some r := H
     have A10 := Aside0.mk A100
     clear A100
     have HC11 := Aside0.mk H
     clear H
     go_enter Tryd.func3, Tryd.ntmps3
     go_upto_region 9 with (first | ((with_reducible refine gate_callee (f := 5) rfl ?_); refine goesL_ (some 19) rfl rfl Tryd.func5 (by kernel_rfl) rfl #[.slice A0 l0.length c0] rfl (by (try simp only [List.map_toArray, List.map_cons, List.map_nil]); first | done | rfl | (simp only [List.length_drop, List.length_take]; rfl)) ?_; (with_reducible refine (laws_toIntS.calls k _ _ l0 t265 _ ?side1 ?side2 A5.out).mono ?_); (case side1 => repeat (first | exact HR0.out | (with_reducible refine Kd.C_alloc ?_ _) | (with_reducible refine Kd.C_drewN ?_ _) | (with_reducible refine Kd.C_drew ?_))); (case side2 => exact HC0.out); rintro e w12 ⟨v266, rfl, ho0, hb⟩; refine ⟨_, rfl, ?_⟩; have n0_ := Aside0.mk (Kd.R_lower ho0 (below_size (by repeat (first | (with_reducible first | exact HB.out | apply below_alloc | apply pw_below_drewN | apply below_drew1) | exact HB.out)))); have n1_ := Aside0.mk (below_step (by repeat (first | (with_reducible first | exact HB.out | apply below_alloc | apply pw_below_drewN | apply below_drew1) | exact HB.out)) hb); clear HB; have HO267 := n0_; have HB := n1_; clear n0_ n1_; (try clear hb); (try clear hb2); (try clear hk); (try clear hi); (try clear ho0)) | ((with_reducible refine gate_callee (f := 5) rfl ?_); refine goesL_ (some 21) rfl rfl Tryd.func5 (by kernel_rfl) rfl #[.slice A1 l1.length c1] rfl (by (try simp only [List.map_toArray, List.map_cons, List.map_nil]); first | done | rfl | (simp only [List.length_drop, List.length_take]; rfl)) ?_; (with_reducible refine (laws_toIntS.calls k _ _ l1 t268 _ ?side1 ?side2 A6.out).mono ?_); (case side1 => repeat (first | exact (Kd.C_below HR1.out HB.out) | (with_reducible refine Kd.C_alloc ?_ _) | (with_reducible refine Kd.C_drewN ?_ _) | (with_reducible refine Kd.C_drew ?_))); (case side2 => exact HC1.out); rintro e w13 ⟨v269, rfl, ho0, hb⟩; refine ⟨_, rfl, ?_⟩; have n0_ := Aside0.mk (Kd.R_elder' (by (with_reducible repeat (first | apply Kd.R_alloc | apply Kd.R_drewN | apply Kd.R_drew)); exact HO267.out) (Kd.R_base ho0) hb); have n1_ := Aside0.mk (Kd.R_lower (Kd.R_new' ho0 (Kd.R_lt (by (with_reducible repeat (first | apply Kd.R_alloc | apply Kd.R_drewN | apply Kd.R_drew)); exact HO267.out))) (below_size (by repeat (first | (with_reducible first | exact HB.out | apply below_alloc | apply pw_below_drewN | apply below_drew1) | exact HB.out)))); have n2_ := Aside0.mk (below_step (by repeat (first | (with_reducible first | exact HB.out | apply below_alloc | apply pw_below_drewN | apply below_drew1) | exact HB.out)) hb); clear HO267; clear HB; have HO267 := n0_; have HO270 := n1_; have HB := n2_; clear n0_ n1_ n2_; (try clear hb); (try clear hb2); (try clear hk); (try clear hi); (try clear ho0); obtain ⟨Ao14, co14, eo14⟩ := Kd.R_slice HO267.out; subst eo14; obtain ⟨Ao15, co15, eo15⟩ := Kd.R_slice HO270.out; subst eo15) | ((with_reducible refine gate_callee (f := 4) rfl ?_); refine goesL_ (some 22) rfl rfl Tryd.func4 (by kernel_rfl) rfl #[.slice Ao14 t265.length co14, .slice Ao15 t268.length co15] rfl (by (try simp only [List.map_toArray, List.map_cons, List.map_nil]); first | done | rfl | (simp only [List.length_drop, List.length_take]; rfl)) ?_; (with_reducible refine (spec_LongestPath.calls k _ _ t265 _ _ t268 t271 t272 _ ?side1 ?side2 ?side3 ?side4 A7.out).mono ?_); (case side1 => repeat (first | exact (Kd.R_reads' HO267.out).2.2 | (with_reducible refine Kd.C_alloc ?_ _) | (with_reducible refine Kd.C_drewN ?_ _) | (with_reducible refine Kd.C_drew ?_))); (case side2 => exact (Kd.R_reads' HO267.out).2.1); (case side3 => repeat (first | exact (Kd.R_reads' HO270.out).2.2 | (with_reducible refine Kd.C_alloc ?_ _) | (with_reducible refine Kd.C_drewN ?_ _) | (with_reducible refine Kd.C_drew ?_))); (case side4 => exact (Kd.R_reads' HO270.out).2.1); rintro e w16 ⟨rfl, hb⟩; refine ⟨_, rfl, ?_⟩; have n0_ := Aside0.mk (Kd.R_below (by (with_reducible repeat (first | apply Kd.R_alloc | apply Kd.R_drewN | apply Kd.R_drew)); exact HO267.out) hb); have n1_ := Aside0.mk (Kd.R_below (by (with_reducible repeat (first | apply Kd.R_alloc | apply Kd.R_drewN | apply Kd.R_drew)); exact HO270.out) hb); have n2_ := Aside0.mk (below_step (by repeat (first | (with_reducible first | exact HB.out | apply below_alloc | apply pw_below_drewN | apply below_drew1) | exact HB.out)) hb); clear HO267; clear HO270; clear HB; have HO267 := n0_; have HO270 := n1_; have HB := n2_; clear n0_ n1_ n2_; (try clear hb); (try clear hb2); (try clear hk); (try clear hi)) | ((with_reducible refine gate_callee (f := 5) rfl ?_); refine goesL_ (some 26) rfl rfl Tryd.func5 (by kernel_rfl) rfl #[.slice A0 l0.length c0] rfl (by (try simp only [List.map_toArray, List.map_cons, List.map_nil]); first | done | rfl | (simp only [List.length_drop, List.length_take]; rfl)) ?_; (with_reducible refine (laws_toIntS.calls k _ _ l0 t273 _ ?side1 ?side2 A8.out).mono ?_); (case side1 => repeat (first | exact (Kd.C_below HR0.out HB.out) | (with_reducible refine Kd.C_alloc ?_ _) | (with_reducible refine Kd.C_drewN ?_ _) | (with_reducible refine Kd.C_drew ?_))); (case side2 => exact HC0.out); rintro e w17 ⟨v274, rfl, ho0, hb⟩; refine ⟨_, rfl, ?_⟩; have n0_ := Aside0.mk (Kd.R_elder' (by (with_reducible repeat (first | apply Kd.R_alloc | apply Kd.R_drewN | apply Kd.R_drew)); exact HO267.out) (Kd.R_base ho0) hb); have n1_ := Aside0.mk (Kd.R_elder' (by (with_reducible repeat (first | apply Kd.R_alloc | apply Kd.R_drewN | apply Kd.R_drew)); exact HO270.out) (Kd.R_base ho0) hb); have n2_ := Aside0.mk (Kd.R_lower (Kd.R_new' (Kd.R_new' ho0 (Kd.R_lt (by (with_reducible repeat (first | apply Kd.R_alloc | apply Kd.R_drewN | apply Kd.R_drew)); exact HO267.out))) (Kd.R_lt (by (with_reducible repeat (first | apply Kd.R_alloc | apply Kd.R_drewN | apply Kd.R_drew)); exact HO270.out))) (below_size (by repeat (first | (with_reducible first | exact HB.out | apply below_alloc | apply pw_below_drewN | apply below_drew1) | exact HB.out)))); have n3_ := Aside0.mk (below_step (by repeat (first | (with_reducible first | exact HB.out | apply below_alloc | apply pw_below_drewN | apply below_drew1) | exact HB.out)) hb); clear HO267; clear HO270; clear HB; have HO267 := n0_; have HO270 := n1_; have HO275 := n2_; have HB := n3_; clear n0_ n1_ n2_ n3_; (try clear hb); (try clear hb2); (try clear hk); (try clear hi); (try clear ho0)) | ((with_reducible refine gate_callee (f := 5) rfl ?_); refine goesL_ (some 28) rfl rfl Tryd.func5 (by kernel_rfl) rfl #[.slice A1 l1.length c1] rfl (by (try simp only [List.map_toArray, List.map_cons, List.map_nil]); first | done | rfl | (simp only [List.length_drop, List.length_take]; rfl)) ?_; (with_reducible refine (laws_toIntS.calls k _ _ l1 t276 _ ?side1 ?side2 A9.out).mono ?_); (case side1 => repeat (first | exact (Kd.C_below HR1.out HB.out) | (with_reducible refine Kd.C_alloc ?_ _) | (with_reducible refine Kd.C_drewN ?_ _) | (with_reducible refine Kd.C_drew ?_))); (case side2 => exact HC1.out); rintro e w18 ⟨v277, rfl, ho0, hb⟩; refine ⟨_, rfl, ?_⟩; have n0_ := Aside0.mk (Kd.R_elder' (by (with_reducible repeat (first | apply Kd.R_alloc | apply Kd.R_drewN | apply Kd.R_drew)); exact HO267.out) (Kd.R_base ho0) hb); have n1_ := Aside0.mk (Kd.R_elder' (by (with_reducible repeat (first | apply Kd.R_alloc | apply Kd.R_drewN | apply Kd.R_drew)); exact HO270.out) (Kd.R_base ho0) hb); have n2_ := Aside0.mk (Kd.R_elder' (by (with_reducible repeat (first | apply Kd.R_alloc | apply Kd.R_drewN | apply Kd.R_drew)); exact HO275.out) (Kd.R_base ho0) hb); have n3_ := Aside0.mk (Kd.R_lower (Kd.R_new' (Kd.R_new' (Kd.R_new' ho0 (Kd.R_lt (by (with_reducible repeat (first | apply Kd.R_alloc | apply Kd.R_drewN | apply Kd.R_drew)); exact HO267.out))) (Kd.R_lt (by (with_reducible repeat (first | apply Kd.R_alloc | apply Kd.R_drewN | apply Kd.R_drew)); exact HO270.out))) (Kd.R_lt (by (with_reducible repeat (first | apply Kd.R_alloc | apply Kd.R_drewN | apply Kd.R_drew)); exact HO275.out))) (below_size (by repeat (first | (with_reducible first | exact HB.out | apply below_alloc | apply pw_below_drewN | apply below_drew1) | exact HB.out)))); have n4_ := Aside0.mk (below_step (by repeat (first | (with_reducible first | exact HB.out | apply below_alloc | apply pw_below_drewN | apply below_drew1) | exact HB.out)) hb); clear HO267; clear HO270; clear HO275; clear HB; have HO267 := n0_; have HO270 := n1_; have HO275 := n2_; have HO278 := n3_; have HB := n4_; clear n0_ n1_ n2_ n3_ n4_; (try clear hb); (try clear hb2); (try clear hk); (try clear hi); (try clear ho0); obtain ⟨Ao19, co19, eo19⟩ := Kd.R_slice HO275.out; subst eo19; obtain ⟨Ao20, co20, eo20⟩ := Kd.R_slice HO278.out; subst eo20) | ((with_reducible refine gate_callee (f := 6) rfl ?_); refine goesL_ (some 32) rfl rfl Tryd.func6 (by kernel_rfl) rfl #[.slice Ao19 t273.length co19, .slice Ao20 t276.length co20] rfl (by (try simp only [List.map_toArray, List.map_cons, List.map_nil]); first | done | rfl | (simp only [List.length_drop, List.length_take]; rfl)) ?_; (with_reducible refine (impl_LongestPath.calls _ _ t273 _ _ t276 t279 t280 _ ?side1 ?side2 ?side3 ?side4 A10.out).mono ?_); (case side1 => repeat (first | exact (Kd.R_reads' HO275.out).2.2 | (with_reducible refine Kd.C_alloc ?_ _) | (with_reducible refine Kd.C_drewN ?_ _) | (with_reducible refine Kd.C_drew ?_))); (case side2 => exact (Kd.R_reads' HO275.out).2.1); (case side3 => repeat (first | exact (Kd.R_reads' HO278.out).2.2 | (with_reducible refine Kd.C_alloc ?_ _) | (with_reducible refine Kd.C_drewN ?_ _) | (with_reducible refine Kd.C_drew ?_))); (case side4 => exact (Kd.R_reads' HO278.out).2.1); rintro e w21 ⟨rfl, hb⟩; refine ⟨_, rfl, ?_⟩; have n0_ := Aside0.mk (Kd.R_below (by (with_reducible repeat (first | apply Kd.R_alloc | apply Kd.R_drewN | apply Kd.R_drew)); exact HO267.out) hb); have n1_ := Aside0.mk (Kd.R_below (by (with_reducible repeat (first | apply Kd.R_alloc | apply Kd.R_drewN | apply Kd.R_drew)); exact HO270.out) hb); have n2_ := Aside0.mk (Kd.R_below (by (with_reducible repeat (first | apply Kd.R_alloc | apply Kd.R_drewN | apply Kd.R_drew)); exact HO275.out) hb); have n3_ := Aside0.mk (Kd.R_below (by (with_reducible repeat (first | apply Kd.R_alloc | apply Kd.R_drewN | apply Kd.R_drew)); exact HO278.out) hb); have n4_ := Aside0.mk (below_step (by repeat (first | (with_reducible first | exact HB.out | apply below_alloc | apply pw_below_drewN | apply below_drew1) | exact HB.out)) hb); clear HO267; clear HO270; clear HO275; clear HO278; clear HB; have HO267 := n0_; have HO270 := n1_; have HO275 := n2_; have HO278 := n3_; have HB := n4_; clear n0_ n1_ n2_ n3_ n4_; (try clear hb); (try clear hb2); (try clear hk); (try clear hi)))
     (try simp only [Act.put, List.setIfInBounds_toArray, List.set_cons_zero, List.set_cons_succ])
     go_cut [42] (fun v42 wc => ∃ (kq : Nat) (x42_10 : Bool), v42 = .bool x42_10 ∧ Aside0 (laws_FnExactLongestPath.j0 kq l0 l1 t273 t276 x42_10 = some r) ∧ Aside0 (kq ≤ k) ∧ Aside0 (Kd.R (Kd.int .i64) 3 wc w.heap.size (fun k_ => some k_ ≠ ((.slice Ao20 t276.length co20) : Value).ownBlock) (.slice Ao19 t273.length co19) t273) ∧ Aside0 (Kd.R (Kd.int .i64) 3 wc w.heap.size (fun k_ => some k_ ≠ ((.slice Ao19 t273.length co19) : Value).ownBlock) (.slice Ao20 t276.length co20) t276) ∧ Aside0 (Below w.heap.size w wc))
     case first =>
      have H := HC11.out
      clear HC11
      by_cases c22 : t279 = t271
      · rw [if_pos c22] at H
        have c22b0 : (t279 == t271) = true := beq_iff_eq.mpr c22
        have c22b1 : (t279 != t271) = false := bne_eq_false_iff_eq.mpr c22
        clear c22
        (first | rw [c22b0] | (simp only [i64_w, i32_w]; rw [c22b0]) | skip)
        have H' := Aside0.mk H
        clear H
        go_wp2
        go_meet
        case rel => exact ⟨_, ((t280 != t272)), (by first | rfl | (simp; done) | (simp [*]; done)), H', ⟨by first | omega | exact Nat.le_refl _⟩, ⟨by (with_reducible repeat (first | apply Kd.R_alloc | apply Kd.R_drewN | apply Kd.R_drew)); exact Kd.R_mono HO275.out (fun _ hk => hk.2)⟩, ⟨by (with_reducible repeat (first | apply Kd.R_alloc | apply Kd.R_drewN | apply Kd.R_drew)); exact Kd.R_mono HO278.out (fun _ hk => hk.2)⟩, ⟨by repeat (first | (with_reducible first | exact HB.out | apply below_alloc | apply pw_below_drewN | apply below_drew1) | exact HB.out)⟩⟩
      · rw [if_neg c22] at H
        have c22b0 : (t279 == t271) = false := beq_eq_false_iff_ne.mpr c22
        have c22b1 : (t279 != t271) = true := bne_iff_ne.mpr c22
        (first | rw [c22b0] | (simp only [i64_w, i32_w]; rw [c22b0]) | skip)
        have H' := Aside0.mk H
        clear H
        go_wp2
        go_meet
        case rel => exact ⟨_, (true), (by first | rfl | (simp; done) | (simp [*]; done)), H', ⟨by first | omega | exact Nat.le_refl _⟩, ⟨by (with_reducible repeat (first | apply Kd.R_alloc | apply Kd.R_drewN | apply Kd.R_drew)); exact Kd.R_mono HO275.out (fun _ hk => hk.2)⟩, ⟨by (with_reducible repeat (first | apply Kd.R_alloc | apply Kd.R_drewN | apply Kd.R_drew)); exact Kd.R_mono HO278.out (fun _ hk => hk.2)⟩, ⟨by repeat (first | (with_reducible first | exact HB.out | apply below_alloc | apply pw_below_drewN | apply below_drew1) | exact HB.out)⟩⟩
     case rest =>
      clear HC11
      try clear c1
      try clear c2
      try clear p2
      try clear c3
      try clear c3b0
      try clear c3b1
      try clear c4
      try clear c4b0
      try clear c4b1
      try clear c5
      try clear c6
      try clear c22
      try clear c22b0
      try clear c22b1
      obtain ⟨kq, x42_10, rfl, HA, HJ10, HO_7, HO_8, HB⟩ := hcut
      cases kq with
      | zero => exact absurd HA.out (by simp [laws_FnExactLongestPath.j0])
      | succ kj10 =>
       have H := HA.out
       clear HA
       simp only [laws_FnExactLongestPath.j0] at H
       by_cases c23 : x42_10 = true
       · subst c23
         have H1 : (some false) = some r := by rw [if_pos rfl] at H; exact H
         clear H
         have H := H1
         clear H1
         obtain rfl := Option.some.inj H
         go_wp2
         go_ret
         exact ⟨by first | rfl | (simp [errW_none, errW_some] <;> rfl) | (simp [*, errW_none, errW_some] <;> rfl), by repeat (first | (with_reducible first | exact HB.out | apply below_alloc | apply pw_below_drewN | apply below_drew1) | exact HB.out)⟩
       · replace c23 := Bool.eq_false_iff.mpr c23
         subst c23
         have H1 : ((laws_toIntS.f kj10 l0).bind fun t281 => ((laws_eqIntS.f kj10 t273 t281).bind fun t284 => (if t284 = true then ((laws_toIntS.f kj10 l1).bind fun t285 => ((laws_eqIntS.f kj10 t276 t285).bind fun t288 => (if t288 = true then (some true) else (some false)))) else (some false)))) = some r := by rw [if_neg (show ¬ (false = true) by decide)] at H; exact H
         clear H
         have H := H1
         clear H1
         replace H := Option.bind_eq_some_iff.mp H
         obtain ⟨t281, A240, H⟩ := H
         replace H : ((laws_eqIntS.f kj10 t273 t281).bind fun t284 => (if t284 = true then ((laws_toIntS.f kj10 l1).bind fun t285 => ((laws_eqIntS.f kj10 t276 t285).bind fun t288 => (if t288 = true then (some true) else (some false)))) else (some false))) = some r := H
         have A24 := Aside0.mk A240
         clear A240
         replace H := Option.bind_eq_some_iff.mp H
         obtain ⟨t284, A250, H⟩ := H
         replace H : (if t284 = true then ((laws_toIntS.f kj10 l1).bind fun t285 => ((laws_eqIntS.f kj10 t276 t285).bind fun t288 => (if t288 = true then (some true) else (some false)))) else (some false)) = some r := H
         have A25 := Aside0.mk A250
         clear A250
         by_cases c26 : t284 = true
         · subst c26
           have H1 : ((laws_toIntS.f kj10 l1).bind fun t285 => ((laws_eqIntS.f kj10 t276 t285).bind fun t288 => (if t288 = true then (some true) else (some false)))) = some r := by rw [if_pos rfl] at H; exact H
           clear H
           have H := H1
           clear H1
           replace H := Option.bind_eq_some_iff.mp H
           obtain ⟨t285, A270, H⟩ := H
           replace H : ((laws_eqIntS.f kj10 t276 t285).bind fun t288 => (if t288 = true then (some true) else (some false))) = some r := H
           have A27 := Aside0.mk A270
           clear A270
           replace H := Option.bind_eq_some_iff.mp H
           obtain ⟨t288, A280, H⟩ := H
           replace H : (if t288 = true then (some true) else (some false)) = some r := H
           have A28 := Aside0.mk A280
           clear A280
           by_cases c29 : t288 = true
           · subst c29
             have H1 : (some true) = some r := by rw [if_pos rfl] at H; exact H
             clear H
             have H := H1
             clear H1
             obtain rfl := Option.some.inj H
             go_wp2_with (first | ((with_reducible refine gate_callee (f := 5) rfl ?_); refine goesL_ (some 45) rfl rfl Tryd.func5 (by kernel_rfl) rfl #[.slice A0 l0.length c0] rfl (by (try simp only [List.map_toArray, List.map_cons, List.map_nil]); first | done | rfl | (simp only [List.length_drop, List.length_take]; rfl)) ?_; (with_reducible refine (laws_toIntS.calls kj10 _ _ l0 t281 _ ?side1 ?side2 A24.out).mono ?_); (case side1 => repeat (first | exact (Kd.C_below HR0.out HB.out) | (with_reducible refine Kd.C_alloc ?_ _) | (with_reducible refine Kd.C_drewN ?_ _) | (with_reducible refine Kd.C_drew ?_))); (case side2 => exact HC0.out); rintro e w30 ⟨v282, rfl, ho0, hb⟩; refine ⟨_, rfl, ?_⟩; have n0_ := Aside0.mk (Kd.R_elder' (by (with_reducible repeat (first | apply Kd.R_alloc | apply Kd.R_drewN | apply Kd.R_drew)); exact HO_7.out) (Kd.R_base ho0) hb); have n1_ := Aside0.mk (Kd.R_elder' (by (with_reducible repeat (first | apply Kd.R_alloc | apply Kd.R_drewN | apply Kd.R_drew)); exact HO_8.out) (Kd.R_base ho0) hb); have n2_ := Aside0.mk (Kd.R_lower (Kd.R_new' (Kd.R_new' ho0 (Kd.R_lt (by (with_reducible repeat (first | apply Kd.R_alloc | apply Kd.R_drewN | apply Kd.R_drew)); exact HO_7.out))) (Kd.R_lt (by (with_reducible repeat (first | apply Kd.R_alloc | apply Kd.R_drewN | apply Kd.R_drew)); exact HO_8.out))) (below_size (by repeat (first | (with_reducible first | exact HB.out | apply below_alloc | apply pw_below_drewN | apply below_drew1) | exact HB.out)))); have n3_ := Aside0.mk (below_step (by repeat (first | (with_reducible first | exact HB.out | apply below_alloc | apply pw_below_drewN | apply below_drew1) | exact HB.out)) hb); clear HO_7; clear HO_8; clear HB; have HO_7 := n0_; have HO_8 := n1_; have HO283 := n2_; have HB := n3_; clear n0_ n1_ n2_ n3_; (try clear hb); (try clear hb2); (try clear hk); (try clear hi); (try clear ho0); obtain ⟨Ao31, co31, eo31⟩ := Kd.R_slice HO283.out; subst eo31) | ((with_reducible refine gate_callee (f := 7) rfl ?_); refine goesL_ (some 46) rfl rfl Tryd.func7 (by kernel_rfl) rfl #[.slice Ao19 t273.length co19, .slice Ao31 t281.length co31] rfl (by (try simp only [List.map_toArray, List.map_cons, List.map_nil]); first | done | rfl | (simp only [List.length_drop, List.length_take]; rfl)) ?_; (with_reducible refine (laws_eqIntS.calls kj10 _ _ t273 _ _ t281 true _ ?side1 ?side2 ?side3 ?side4 A25.out).mono ?_); (case side1 => repeat (first | exact (Kd.R_reads' HO_7.out).2.2 | (with_reducible refine Kd.C_alloc ?_ _) | (with_reducible refine Kd.C_drewN ?_ _) | (with_reducible refine Kd.C_drew ?_))); (case side2 => exact (Kd.R_reads' HO_7.out).2.1); (case side3 => repeat (first | exact (Kd.R_reads' HO283.out).2.2 | (with_reducible refine Kd.C_alloc ?_ _) | (with_reducible refine Kd.C_drewN ?_ _) | (with_reducible refine Kd.C_drew ?_))); (case side4 => exact (Kd.R_reads' HO283.out).2.1); rintro e w' ⟨rfl, ⟨nd, rfl⟩⟩; refine ⟨_, rfl, ?_⟩) | ((with_reducible refine gate_callee (f := 5) rfl ?_); refine goesL_ (some 50) rfl rfl Tryd.func5 (by kernel_rfl) rfl #[.slice A1 l1.length c1] rfl (by (try simp only [List.map_toArray, List.map_cons, List.map_nil]); first | done | rfl | (simp only [List.length_drop, List.length_take]; rfl)) ?_; (with_reducible refine (laws_toIntS.calls kj10 _ _ l1 t285 _ ?side1 ?side2 A27.out).mono ?_); (case side1 => repeat (first | exact (Kd.C_below HR1.out (by repeat (first | (with_reducible first | exact HB.out | apply below_alloc | apply pw_below_drewN | apply below_drew1) | exact HB.out))) | (with_reducible refine Kd.C_alloc ?_ _) | (with_reducible refine Kd.C_drewN ?_ _) | (with_reducible refine Kd.C_drew ?_))); (case side2 => exact HC1.out); rintro e w32 ⟨v286, rfl, ho0, hb⟩; refine ⟨_, rfl, ?_⟩; have n0_ := Aside0.mk (Kd.R_elder' (by (with_reducible repeat (first | apply Kd.R_alloc | apply Kd.R_drewN | apply Kd.R_drew)); exact HO_7.out) (Kd.R_base ho0) hb); have n1_ := Aside0.mk (Kd.R_elder' (by (with_reducible repeat (first | apply Kd.R_alloc | apply Kd.R_drewN | apply Kd.R_drew)); exact HO_8.out) (Kd.R_base ho0) hb); have n2_ := Aside0.mk (Kd.R_elder' (by (with_reducible repeat (first | apply Kd.R_alloc | apply Kd.R_drewN | apply Kd.R_drew)); exact HO283.out) (Kd.R_base ho0) hb); have n3_ := Aside0.mk (Kd.R_lower (Kd.R_new' (Kd.R_new' (Kd.R_new' ho0 (Kd.R_lt (by (with_reducible repeat (first | apply Kd.R_alloc | apply Kd.R_drewN | apply Kd.R_drew)); exact HO_7.out))) (Kd.R_lt (by (with_reducible repeat (first | apply Kd.R_alloc | apply Kd.R_drewN | apply Kd.R_drew)); exact HO_8.out))) (Kd.R_lt (by (with_reducible repeat (first | apply Kd.R_alloc | apply Kd.R_drewN | apply Kd.R_drew)); exact HO283.out))) (below_size (by repeat (first | (with_reducible first | exact HB.out | apply below_alloc | apply pw_below_drewN | apply below_drew1) | exact HB.out)))); have n4_ := Aside0.mk (below_step (by repeat (first | (with_reducible first | exact HB.out | apply below_alloc | apply pw_below_drewN | apply below_drew1) | exact HB.out)) hb); clear HO_7; clear HO_8; clear HO283; clear HB; have HO_7 := n0_; have HO_8 := n1_; have HO283 := n2_; have HO287 := n3_; have HB := n4_; clear n0_ n1_ n2_ n3_ n4_; (try clear hb); (try clear hb2); (try clear hk); (try clear hi); (try clear ho0); obtain ⟨Ao33, co33, eo33⟩ := Kd.R_slice HO287.out; subst eo33) | ((with_reducible refine gate_callee (f := 7) rfl ?_); refine goesL_ (some 51) rfl rfl Tryd.func7 (by kernel_rfl) rfl #[.slice Ao20 t276.length co20, .slice Ao33 t285.length co33] rfl (by (try simp only [List.map_toArray, List.map_cons, List.map_nil]); first | done | rfl | (simp only [List.length_drop, List.length_take]; rfl)) ?_; (with_reducible refine (laws_eqIntS.calls kj10 _ _ t276 _ _ t285 true _ ?side1 ?side2 ?side3 ?side4 A28.out).mono ?_); (case side1 => repeat (first | exact (Kd.R_reads' HO_8.out).2.2 | (with_reducible refine Kd.C_alloc ?_ _) | (with_reducible refine Kd.C_drewN ?_ _) | (with_reducible refine Kd.C_drew ?_))); (case side2 => exact (Kd.R_reads' HO_8.out).2.1); (case side3 => repeat (first | exact (Kd.R_reads' HO287.out).2.2 | (with_reducible refine Kd.C_alloc ?_ _) | (with_reducible refine Kd.C_drewN ?_ _) | (with_reducible refine Kd.C_drew ?_))); (case side4 => exact (Kd.R_reads' HO287.out).2.1); rintro e w' ⟨rfl, ⟨nd, rfl⟩⟩; refine ⟨_, rfl, ?_⟩))
             go_ret
             exact ⟨by first | rfl | (simp [errW_none, errW_some] <;> rfl) | (simp [*, errW_none, errW_some] <;> rfl), by repeat (first | (with_reducible first | exact HB.out | apply below_alloc | apply pw_below_drewN | apply below_drew1) | exact HB.out)⟩
           · replace c29 := Bool.eq_false_iff.mpr c29
             subst c29
             have H1 : (some false) = some r := by rw [if_neg (show ¬ (false = true) by decide)] at H; exact H
             clear H
             have H := H1
             clear H1
             obtain rfl := Option.some.inj H
             go_wp2_with (first | ((with_reducible refine gate_callee (f := 5) rfl ?_); refine goesL_ (some 45) rfl rfl Tryd.func5 (by kernel_rfl) rfl #[.slice A0 l0.length c0] rfl (by (try simp only [List.map_toArray, List.map_cons, List.map_nil]); first | done | rfl | (simp only [List.length_drop, List.length_take]; rfl)) ?_; (with_reducible refine (laws_toIntS.calls kj10 _ _ l0 t281 _ ?side1 ?side2 A24.out).mono ?_); (case side1 => repeat (first | exact (Kd.C_below HR0.out HB.out) | (with_reducible refine Kd.C_alloc ?_ _) | (with_reducible refine Kd.C_drewN ?_ _) | (with_reducible refine Kd.C_drew ?_))); (case side2 => exact HC0.out); rintro e w34 ⟨v282, rfl, ho0, hb⟩; refine ⟨_, rfl, ?_⟩; have n0_ := Aside0.mk (Kd.R_elder' (by (with_reducible repeat (first | apply Kd.R_alloc | apply Kd.R_drewN | apply Kd.R_drew)); exact HO_7.out) (Kd.R_base ho0) hb); have n1_ := Aside0.mk (Kd.R_elder' (by (with_reducible repeat (first | apply Kd.R_alloc | apply Kd.R_drewN | apply Kd.R_drew)); exact HO_8.out) (Kd.R_base ho0) hb); have n2_ := Aside0.mk (Kd.R_lower (Kd.R_new' (Kd.R_new' ho0 (Kd.R_lt (by (with_reducible repeat (first | apply Kd.R_alloc | apply Kd.R_drewN | apply Kd.R_drew)); exact HO_7.out))) (Kd.R_lt (by (with_reducible repeat (first | apply Kd.R_alloc | apply Kd.R_drewN | apply Kd.R_drew)); exact HO_8.out))) (below_size (by repeat (first | (with_reducible first | exact HB.out | apply below_alloc | apply pw_below_drewN | apply below_drew1) | exact HB.out)))); have n3_ := Aside0.mk (below_step (by repeat (first | (with_reducible first | exact HB.out | apply below_alloc | apply pw_below_drewN | apply below_drew1) | exact HB.out)) hb); clear HO_7; clear HO_8; clear HB; have HO_7 := n0_; have HO_8 := n1_; have HO283 := n2_; have HB := n3_; clear n0_ n1_ n2_ n3_; (try clear hb); (try clear hb2); (try clear hk); (try clear hi); (try clear ho0); obtain ⟨Ao35, co35, eo35⟩ := Kd.R_slice HO283.out; subst eo35) | ((with_reducible refine gate_callee (f := 7) rfl ?_); refine goesL_ (some 46) rfl rfl Tryd.func7 (by kernel_rfl) rfl #[.slice Ao19 t273.length co19, .slice Ao35 t281.length co35] rfl (by (try simp only [List.map_toArray, List.map_cons, List.map_nil]); first | done | rfl | (simp only [List.length_drop, List.length_take]; rfl)) ?_; (with_reducible refine (laws_eqIntS.calls kj10 _ _ t273 _ _ t281 true _ ?side1 ?side2 ?side3 ?side4 A25.out).mono ?_); (case side1 => repeat (first | exact (Kd.R_reads' HO_7.out).2.2 | (with_reducible refine Kd.C_alloc ?_ _) | (with_reducible refine Kd.C_drewN ?_ _) | (with_reducible refine Kd.C_drew ?_))); (case side2 => exact (Kd.R_reads' HO_7.out).2.1); (case side3 => repeat (first | exact (Kd.R_reads' HO283.out).2.2 | (with_reducible refine Kd.C_alloc ?_ _) | (with_reducible refine Kd.C_drewN ?_ _) | (with_reducible refine Kd.C_drew ?_))); (case side4 => exact (Kd.R_reads' HO283.out).2.1); rintro e w' ⟨rfl, ⟨nd, rfl⟩⟩; refine ⟨_, rfl, ?_⟩) | ((with_reducible refine gate_callee (f := 5) rfl ?_); refine goesL_ (some 50) rfl rfl Tryd.func5 (by kernel_rfl) rfl #[.slice A1 l1.length c1] rfl (by (try simp only [List.map_toArray, List.map_cons, List.map_nil]); first | done | rfl | (simp only [List.length_drop, List.length_take]; rfl)) ?_; (with_reducible refine (laws_toIntS.calls kj10 _ _ l1 t285 _ ?side1 ?side2 A27.out).mono ?_); (case side1 => repeat (first | exact (Kd.C_below HR1.out (by repeat (first | (with_reducible first | exact HB.out | apply below_alloc | apply pw_below_drewN | apply below_drew1) | exact HB.out))) | (with_reducible refine Kd.C_alloc ?_ _) | (with_reducible refine Kd.C_drewN ?_ _) | (with_reducible refine Kd.C_drew ?_))); (case side2 => exact HC1.out); rintro e w36 ⟨v286, rfl, ho0, hb⟩; refine ⟨_, rfl, ?_⟩; have n0_ := Aside0.mk (Kd.R_elder' (by (with_reducible repeat (first | apply Kd.R_alloc | apply Kd.R_drewN | apply Kd.R_drew)); exact HO_7.out) (Kd.R_base ho0) hb); have n1_ := Aside0.mk (Kd.R_elder' (by (with_reducible repeat (first | apply Kd.R_alloc | apply Kd.R_drewN | apply Kd.R_drew)); exact HO_8.out) (Kd.R_base ho0) hb); have n2_ := Aside0.mk (Kd.R_elder' (by (with_reducible repeat (first | apply Kd.R_alloc | apply Kd.R_drewN | apply Kd.R_drew)); exact HO283.out) (Kd.R_base ho0) hb); have n3_ := Aside0.mk (Kd.R_lower (Kd.R_new' (Kd.R_new' (Kd.R_new' ho0 (Kd.R_lt (by (with_reducible repeat (first | apply Kd.R_alloc | apply Kd.R_drewN | apply Kd.R_drew)); exact HO_7.out))) (Kd.R_lt (by (with_reducible repeat (first | apply Kd.R_alloc | apply Kd.R_drewN | apply Kd.R_drew)); exact HO_8.out))) (Kd.R_lt (by (with_reducible repeat (first | apply Kd.R_alloc | apply Kd.R_drewN | apply Kd.R_drew)); exact HO283.out))) (below_size (by repeat (first | (with_reducible first | exact HB.out | apply below_alloc | apply pw_below_drewN | apply below_drew1) | exact HB.out)))); have n4_ := Aside0.mk (below_step (by repeat (first | (with_reducible first | exact HB.out | apply below_alloc | apply pw_below_drewN | apply below_drew1) | exact HB.out)) hb); clear HO_7; clear HO_8; clear HO283; clear HB; have HO_7 := n0_; have HO_8 := n1_; have HO283 := n2_; have HO287 := n3_; have HB := n4_; clear n0_ n1_ n2_ n3_ n4_; (try clear hb); (try clear hb2); (try clear hk); (try clear hi); (try clear ho0); obtain ⟨Ao37, co37, eo37⟩ := Kd.R_slice HO287.out; subst eo37) | ((with_reducible refine gate_callee (f := 7) rfl ?_); refine goesL_ (some 51) rfl rfl Tryd.func7 (by kernel_rfl) rfl #[.slice Ao20 t276.length co20, .slice Ao37 t285.length co37] rfl (by (try simp only [List.map_toArray, List.map_cons, List.map_nil]); first | done | rfl | (simp only [List.length_drop, List.length_take]; rfl)) ?_; (with_reducible refine (laws_eqIntS.calls kj10 _ _ t276 _ _ t285 false _ ?side1 ?side2 ?side3 ?side4 A28.out).mono ?_); (case side1 => repeat (first | exact (Kd.R_reads' HO_8.out).2.2 | (with_reducible refine Kd.C_alloc ?_ _) | (with_reducible refine Kd.C_drewN ?_ _) | (with_reducible refine Kd.C_drew ?_))); (case side2 => exact (Kd.R_reads' HO_8.out).2.1); (case side3 => repeat (first | exact (Kd.R_reads' HO287.out).2.2 | (with_reducible refine Kd.C_alloc ?_ _) | (with_reducible refine Kd.C_drewN ?_ _) | (with_reducible refine Kd.C_drew ?_))); (case side4 => exact (Kd.R_reads' HO287.out).2.1); rintro e w' ⟨rfl, ⟨nd, rfl⟩⟩; refine ⟨_, rfl, ?_⟩))
             go_ret
             exact ⟨by first | rfl | (simp [errW_none, errW_some] <;> rfl) | (simp [*, errW_none, errW_some] <;> rfl), by repeat (first | (with_reducible first | exact HB.out | apply below_alloc | apply pw_below_drewN | apply below_drew1) | exact HB.out)⟩
         · replace c26 := Bool.eq_false_iff.mpr c26
           subst c26
           have H1 : (some false) = some r := by rw [if_neg (show ¬ (false = true) by decide)] at H; exact H
           clear H
           have H := H1
           clear H1
           obtain rfl := Option.some.inj H
           go_wp2_with (first | ((with_reducible refine gate_callee (f := 5) rfl ?_); refine goesL_ (some 45) rfl rfl Tryd.func5 (by kernel_rfl) rfl #[.slice A0 l0.length c0] rfl (by (try simp only [List.map_toArray, List.map_cons, List.map_nil]); first | done | rfl | (simp only [List.length_drop, List.length_take]; rfl)) ?_; (with_reducible refine (laws_toIntS.calls kj10 _ _ l0 t281 _ ?side1 ?side2 A24.out).mono ?_); (case side1 => repeat (first | exact (Kd.C_below HR0.out HB.out) | (with_reducible refine Kd.C_alloc ?_ _) | (with_reducible refine Kd.C_drewN ?_ _) | (with_reducible refine Kd.C_drew ?_))); (case side2 => exact HC0.out); rintro e w38 ⟨v282, rfl, ho0, hb⟩; refine ⟨_, rfl, ?_⟩; have n0_ := Aside0.mk (Kd.R_elder' (by (with_reducible repeat (first | apply Kd.R_alloc | apply Kd.R_drewN | apply Kd.R_drew)); exact HO_7.out) (Kd.R_base ho0) hb); have n1_ := Aside0.mk (Kd.R_elder' (by (with_reducible repeat (first | apply Kd.R_alloc | apply Kd.R_drewN | apply Kd.R_drew)); exact HO_8.out) (Kd.R_base ho0) hb); have n2_ := Aside0.mk (Kd.R_lower (Kd.R_new' (Kd.R_new' ho0 (Kd.R_lt (by (with_reducible repeat (first | apply Kd.R_alloc | apply Kd.R_drewN | apply Kd.R_drew)); exact HO_7.out))) (Kd.R_lt (by (with_reducible repeat (first | apply Kd.R_alloc | apply Kd.R_drewN | apply Kd.R_drew)); exact HO_8.out))) (below_size (by repeat (first | (with_reducible first | exact HB.out | apply below_alloc | apply pw_below_drewN | apply below_drew1) | exact HB.out)))); have n3_ := Aside0.mk (below_step (by repeat (first | (with_reducible first | exact HB.out | apply below_alloc | apply pw_below_drewN | apply below_drew1) | exact HB.out)) hb); clear HO_7; clear HO_8; clear HB; have HO_7 := n0_; have HO_8 := n1_; have HO283 := n2_; have HB := n3_; clear n0_ n1_ n2_ n3_; (try clear hb); (try clear hb2); (try clear hk); (try clear hi); (try clear ho0); obtain ⟨Ao39, co39, eo39⟩ := Kd.R_slice HO283.out; subst eo39) | ((with_reducible refine gate_callee (f := 7) rfl ?_); refine goesL_ (some 46) rfl rfl Tryd.func7 (by kernel_rfl) rfl #[.slice Ao19 t273.length co19, .slice Ao39 t281.length co39] rfl (by (try simp only [List.map_toArray, List.map_cons, List.map_nil]); first | done | rfl | (simp only [List.length_drop, List.length_take]; rfl)) ?_; (with_reducible refine (laws_eqIntS.calls kj10 _ _ t273 _ _ t281 false _ ?side1 ?side2 ?side3 ?side4 A25.out).mono ?_); (case side1 => repeat (first | exact (Kd.R_reads' HO_7.out).2.2 | (with_reducible refine Kd.C_alloc ?_ _) | (with_reducible refine Kd.C_drewN ?_ _) | (with_reducible refine Kd.C_drew ?_))); (case side2 => exact (Kd.R_reads' HO_7.out).2.1); (case side3 => repeat (first | exact (Kd.R_reads' HO283.out).2.2 | (with_reducible refine Kd.C_alloc ?_ _) | (with_reducible refine Kd.C_drewN ?_ _) | (with_reducible refine Kd.C_drew ?_))); (case side4 => exact (Kd.R_reads' HO283.out).2.1); rintro e w' ⟨rfl, ⟨nd, rfl⟩⟩; refine ⟨_, rfl, ?_⟩))
           go_ret
           exact ⟨by first | rfl | (simp [errW_none, errW_some] <;> rfl) | (simp [*, errW_none, errW_some] <;> rfl), by repeat (first | (with_reducible first | exact HB.out | apply below_alloc | apply pw_below_drewN | apply below_drew1) | exact HB.out)⟩

/-- THE ONE PURE STATEMENT of laws_FnExactLongestPath: yours. -/
def laws_FnExactLongestPath.Pure : Prop := ∀ (l0 : List Int) (l1 : List Int), l0.length ≤ maxLen → l0.length * 8 ≤ 140737488351232 → (∀ x ∈ l0, (Lit.int .i64 x).wf = true) → l1.length ≤ maxLen → l1.length * 8 ≤ 140737488351232 → (∀ x ∈ l1, (Lit.int .i64 x).wf = true) → ∃ k, laws_FnExactLongestPath.f k l0 l1 = some true
theorem laws_FnExactLongestPath.walk (P : laws_FnExactLongestPath.Pure) (a0 : Option Addr) (len0 cap0 : Nat) (z0 : List Int) (a1 : Option Addr) (len1 cap1 : Nat) (z1 : List Int) (w : World) (w0 : (a0 = none ∧ len0 = 0 ∧ cap0 = 0 ∧ z0 = []) ∨ ∃ x, a0 = some x ∧ len0 ≤ cap0 ∧ cap0 ≤ maxLen ∧ z0.length = cap0 ∧ (∀ i, i < z0.length → w.cell? (x.add i) = some (.int .i64 (z0.getD i 0))) ∧ ∀ n ∈ z0, (Lit.int .i64 n).wf = true) (y0 : len0 * 8 ≤ 140737488351232) (w1 : (a1 = none ∧ len1 = 0 ∧ cap1 = 0 ∧ z1 = []) ∨ ∃ x, a1 = some x ∧ len1 ≤ cap1 ∧ cap1 ≤ maxLen ∧ z1.length = cap1 ∧ (∀ i, i < z1.length → w.cell? (x.add i) = some (.int .i64 (z1.getD i 0))) ∧ ∀ n ∈ z1, (Lit.int .i64 n).wf = true) (y1 : len1 * 8 ≤ 140737488351232) :
 Calls Tryd.prog 3 #[.slice a0 len0 cap0, .slice a1 len1 cap1] w fun e w' => e = .returned (.bool true) ∧ Below w.heap.size w w' := by
 obtain ⟨l0, rfl, hr0, hm0, hw0, hc0⟩ := ReadsInt.ofRowC w0
 obtain ⟨l1, rfl, hr1, hm1, hw1, hc1⟩ := ReadsInt.ofRowC w1
 obtain ⟨k, h⟩ := P l0 l1 hm0 y0 hw0 hm1 y1 hw1
 refine (laws_FnExactLongestPath.calls k _ _ l0 _ _ l1 true w (Kd.C_of_reads (d := (0 : Int)) (h1 := fun _ => rfl) hr0) hc0 (Kd.C_of_reads (d := (0 : Int)) (h1 := fun _ => rfl) hr1) hc1 h).mono ?_
 rintro e w' ⟨rfl, hd⟩
 exact ⟨rfl, hd⟩

end Go.Proofs.YtefbphpgaeffaaaDoor.A

namespace Go.Proofs.YtefbphpgaeffaaaDoor.A
open Go.RowKit Go.Proofs.YtefbphpgaeffaaaDoorW.PrintWords Go.Proofs.YtefbphpgaeffaaaDoorW.PrintLast Go.Proofs.YtefbphpgaeffaaaDoorW.PrintMore
set_option linter.unusedVariables false
set_option linter.unusedSimpArgs false
theorem eqIntS_l (xs ys : List Int) (hx : xs.length ≤ 9223372036854775807) (hl : xs.length = ys.length) : ∀ (n i : Nat), i + n = xs.length → Ev (fun k => laws_eqIntS.l0 k xs ys (i : Int)) (decide (xs.drop i = ys.drop i))
 | 0, i, h => by
  refine Ev.succ ?_
  simp only [laws_eqIntS.l0, if_neg (show ¬ (i : Int) < (xs.length : Int) by omega)]
  rw [List.drop_eq_nil_of_le (by omega), List.drop_eq_nil_of_le (by omega)]
  exact Ev.now _
 | n + 1, i, h => by
  have hi : i < xs.length := by omega
  have hj : i < ys.length := by omega
  refine Ev.succ ?_
  simp only [laws_eqIntS.l0, if_pos (show (i : Int) < (xs.length : Int) by omega), if_pos (show (i : Int) < (ys.length : Int) by omega), if_pos (show (0 : Int) ≤ (i : Int) by omega), rdn hi, rdn hj, wsucc hi hx]
  rw [List.drop_eq_getElem_cons hi, List.drop_eq_getElem_cons hj]
  by_cases c : xs[i] = ys[i]
  · simp only [c, if_true, List.cons.injEq, true_and]
    exact eqIntS_l xs ys hx hl n (i + 1) (by omega)
  · simp only [c, if_false, List.cons.injEq, false_and, decide_false]
    exact Ev.now _
theorem eqIntS_ev (xs ys : List Int) (hx : xs.length ≤ 9223372036854775807) : Ev (fun k => laws_eqIntS.f k xs ys) (decide (xs = ys)) := by
 unfold laws_eqIntS.f
 by_cases h : xs.length = ys.length
 · simp only [if_pos (show (xs.length : Int) = (ys.length : Int) by omega)]
   exact eqIntS_l xs ys hx h xs.length 0 (by omega)
 · simp only [if_neg (show ¬ (xs.length : Int) = (ys.length : Int) by omega)]
   rw [decide_eq_false (fun e => h (by rw [e]))]
   exact Ev.now _
theorem eqIntS_self (xs : List Int) (hx : xs.length ≤ 9223372036854775807) : Ev (fun k => laws_eqIntS.f k xs xs) true := by
 have h := eqIntS_ev xs xs hx
 rw [decide_eq_true rfl] at h
 exact h
end Go.Proofs.YtefbphpgaeffaaaDoor.A

namespace Go.Proofs.YtefbphpgaeffaaaDoor.A
open Go.RowKit Go.Proofs.YtefbphpgaeffaaaDoorW.PrintWords Go.Proofs.YtefbphpgaeffaaaDoorW.PrintLast Go.Proofs.YtefbphpgaeffaaaDoorW.PrintMore
set_option linter.unusedVariables false
set_option linter.unusedSimpArgs false
/-! LongestPath of both -/
theorem specLongestPath_ev (a b : List Int) (ha : a.length ≤ 1048576) (hb : b.length ≤ 1048576) : Ev (fun k => spec_LongestPath.f k a b) (lpR a b) := by
 unfold spec_LongestPath.f lpR
 refine Ev.bind (giLists_ev a b ha hb) (Ev.ite (fun h => ?_) (fun _ => Ev.now _))
 obtain ⟨ga, gb, hm⟩ := (betB_iff a b).1 h
 have hs := ((majB_iff a b).1 hm).2.1
 refine Ev.bind (liSum_ev a (good_sm ga)) ?_
 by_cases c : b.sum ≤ 20
 · simp only [if_neg (show ¬ a.sum > 20 by omega), if_pos c]
   have e : spec_giLongest.f a b = some (lp a (descL b)) := by
    unfold spec_giLongest.f
    rw [if_pos h, if_pos c]
   simp only [e, Option.bind_some]
   exact Ev.now _
 · simp only [if_pos (show a.sum > 20 by omega), if_neg c]
   exact Ev.now _
theorem implLongestPath_ev (a b : List Int) (ha : a.length ≤ 1048576) (hb : b.length ≤ 1048576) : Ev (fun _ => impl_LongestPath.f a b) (lpR a b) := by
 unfold impl_LongestPath.f
 rw [if_pos ⟨ha, hb⟩]
 exact Ev.now _
end Go.Proofs.YtefbphpgaeffaaaDoor.A

namespace Go.Proofs.YtefbphpgaeffaaaDoor.A
open Go.RowKit Go.Proofs.YtefbphpgaeffaaaDoorW.PrintWords Go.Proofs.YtefbphpgaeffaaaDoorW.PrintLast Go.Proofs.YtefbphpgaeffaaaDoorW.PrintMore
set_option linter.unusedVariables false
set_option linter.unusedSimpArgs false
theorem toIntS_l (xs : List Int) (hx : xs.length ≤ 35184372088832) : ∀ (n i : Nat) (ys : List Int), i + n = xs.length → ys.length = xs.length → ys.take i = xs.take i → Ev (fun k => laws_toIntS.l0 k xs ys (i : Int)) xs
 | 0, i, ys, h, hl, ht => by
  refine Ev.succ ?_
  simp only [laws_toIntS.l0, if_neg (show ¬ (i : Int) < (xs.length : Int) by omega)]
  rw [List.take_of_length_le (by omega), List.take_of_length_le (by omega)] at ht
  rw [ht]
  exact Ev.now _
 | n + 1, i, ys, h, hl, ht => by
  have hi : i < xs.length := by omega
  refine Ev.succ ?_
  simp only [laws_toIntS.l0, if_pos (show (i : Int) < (xs.length : Int) by omega), if_pos (show (i : Int) < (ys.length : Int) by omega), if_pos (show (0 : Int) ≤ (i : Int) by omega), rdn hi, wsucc hi (by omega), Int.toNat_natCast]
  refine toIntS_l xs hx n (i + 1) _ (by omega) (by rw [List.length_set]; exact hl) ?_
  rw [List.take_add_one, List.take_add_one, List.take_set_of_le (Nat.le_refl _), ht]
  congr 1
  rw [List.getElem?_set_self (by omega), List.getElem?_eq_getElem hi]
theorem toIntS_ev (xs : List Int) (hx : xs.length ≤ 35184372088832) : Ev (fun k => laws_toIntS.f k xs) xs := by
 unfold laws_toIntS.f
 simp only [if_pos (show (0 : Int) ≤ (xs.length : Int) by omega), Int.toNat_natCast, if_pos hx]
 exact toIntS_l xs hx xs.length 0 _ (by omega) (by simp) (by simp)
end Go.Proofs.YtefbphpgaeffaaaDoor.A

/- The law FnExactLongestPath holds of the printed functions, for every argument: numbers and lists alone. -/
namespace Go.Proofs.YtefbphpgaeffaaaDoor.Pure
open Go.RowKit Go.Proofs.YtefbphpgaeffaaaDoor.A Go.Proofs.YtefbphpgaeffaaaDoorW.PrintWords Go.Proofs.YtefbphpgaeffaaaDoorW.PrintLast
set_option linter.unusedVariables false
set_option linter.unusedSimpArgs false
theorem FnExactLongestPath : laws_FnExactLongestPath.Pure := by
 intro l0 l1 _ _ _ _ _ _
 apply Ev.get
 unfold laws_FnExactLongestPath.f
 by_cases hl0 : (l0.length : Int) > 1048576
 · simp only [if_pos hl0]
   exact Ev.now _
 simp only [if_neg hl0]
 by_cases hl1 : (l1.length : Int) > 1048576
 · simp only [if_pos hl1]
   exact Ev.now _
 simp only [if_neg hl1]
 refine Ev.bind (toIntS_ev l0 (by omega)) ?_
 refine Ev.bind (toIntS_ev l1 (by omega)) ?_
 refine Ev.bind (specLongestPath_ev l0 l1 (by omega) (by omega) ) ?_
 refine Ev.bind (toIntS_ev l0 (by omega)) ?_
 refine Ev.bind (toIntS_ev l1 (by omega)) ?_
 refine Ev.bind (implLongestPath_ev l0 l1 (by omega) (by omega) ) ?_
 first | simp only [bne_self_eq_false, if_true, Bool.false_eq_true, if_false] | skip
 refine Ev.succ ?_
 simp only [laws_FnExactLongestPath.j0, Bool.false_eq_true, if_false]
 refine Ev.bind (toIntS_ev l0 (by omega)) ?_
 refine Ev.bind (eqIntS_self _ (by omega)) ?_
 first | simp only [bne_self_eq_false, if_true, Bool.false_eq_true, if_false] | skip
 refine Ev.bind (toIntS_ev l1 (by omega)) ?_
 refine Ev.bind (eqIntS_self _ (by omega)) ?_
 first | simp only [bne_self_eq_false, if_true, Bool.false_eq_true, if_false] | skip
 exact Ev.now _
end Go.Proofs.YtefbphpgaeffaaaDoor.Pure
