/- What the law FnConjugatesTurn reaches, part 3: Lean functions with the same answers as the Go functions, the proofs that the Go code comes to these answers, and lemmas about them; no condition beyond those that each theorem names. -/
import Derived.Test.YtnlimjejllakoaaCFnConjugatesTurnw1
import Derived.Lib.VarintBits
import Derived.Lib.Zigzag
import Derived.Test.YtnlimjejllakoaaCFnConjugatesTurn1
import Derived.Test.YtnlimjejllakoaaCFnConjugatesTurn2
-- made by a program of this repo (wip/pp.py) through the kit's printer
namespace Go.Proofs.Ytnlimjejllakoaa.A
open Go.RowKit Go.Proofs.YtnlimjejllakoaaW.PrintWords Go.Proofs.YtnlimjejllakoaaW.PrintLast Go.Proofs.YtnlimjejllakoaaW.PrintMore
attribute [local go_sem] max2_int min2_int max_two min_two max_three min_three max_four min_four
set_option linter.unusedVariables false
set_option linter.unusedSimpArgs false

/-! ### spec_MeetOf: function 56 -/
mutual
def spec_MeetOf.j0 : Nat → List Int → List Int → Bool → Option (List Int × Bool)
 | 0, _, _, _ => none
 | k + 1, x0, x1, x23 => if x23 = true then (some (([] : List Int), false)) else ((spec_liPartial.f k x0).bind fun t994 => ((spec_liPartial.f k x1).bind fun t997 => (spec_MeetOf.l0 k t994 t997 ([] : List Int) (t994.length : Int) 0)))
def spec_MeetOf.l0 : Nat → List Int → List Int → List Int → Int → Int → Option (List Int × Bool)
 | 0, _, _, _, _, _ => none
 | k + 1, x6, x7, x8, x29, x30 => if x30 < x29 then (if 0 ≤ x30 then (if x30 < (x6.length : Int) then (if x30 < (x7.length : Int) then ((spec_l1Least.f (rd x6 x30) (rd x7 x30)).bind fun t1002 => (if x8.length < 17592186044416 then (spec_MeetOf.l0 k x6 x7 (x8 ++ [t1002]) x29 (wrap64 (x30 + 1))) else (none))) else (none)) else (none)) else (none)) else ((spec_liFrom.f k x8).bind fun t1006 => (some (t1006, true)))
end
end Go.Proofs.Ytnlimjejllakoaa.A

namespace Go.Proofs.Ytnlimjejllakoaa.A
open Go.RowKit Go.Proofs.YtnlimjejllakoaaW.PrintWords Go.Proofs.YtnlimjejllakoaaW.PrintLast Go.Proofs.YtnlimjejllakoaaW.PrintMore
set_option linter.unusedVariables false
set_option linter.unusedSimpArgs false
end Go.Proofs.Ytnlimjejllakoaa.A

namespace Go.Proofs.Ytnlimjejllakoaa.A
open Go.RowKit Go.Proofs.YtnlimjejllakoaaW.PrintWords Go.Proofs.YtnlimjejllakoaaW.PrintLast Go.Proofs.YtnlimjejllakoaaW.PrintMore
set_option linter.unusedVariables false
set_option linter.unusedSimpArgs false
end Go.Proofs.Ytnlimjejllakoaa.A

namespace Go.Proofs.Ytnlimjejllakoaa.A
open Go.RowKit Go.Proofs.YtnlimjejllakoaaW.PrintWords Go.Proofs.YtnlimjejllakoaaW.PrintLast Go.Proofs.YtnlimjejllakoaaW.PrintMore
set_option linter.unusedVariables false
set_option linter.unusedSimpArgs false
def gtN (l : List Int) (j : Nat) : Nat := l.countP fun x => decide ((j : Int) < x)
theorem gtN_le (l : List Int) (j : Nat) : gtN l j ≤ l.length := List.countP_le_length
theorem gtN_anti (l : List Int) {i j : Nat} (h : i ≤ j) : gtN l j ≤ gtN l i := List.countP_mono_left fun x _ hx => by
 simp only [decide_eq_true_eq] at hx ⊢
 omega
def mapR (n : Nat) (f : Nat → Int) : List Int := (List.range n).map f
theorem mapR_length (n : Nat) (f : Nat → Int) : (mapR n f).length = n := by simp [mapR]
theorem mapR_get (n : Nat) (f : Nat → Int) (i : Nat) (h : i < (mapR n f).length) : (mapR n f)[i] = f i := by simp [mapR]
theorem mapR_congr {n : Nat} {f g : Nat → Int} (h : ∀ i, i < n → f i = g i) : mapR n f = mapR n g := by
 unfold mapR
 exact List.map_congr_left fun i hi => h i (List.mem_range.1 hi)
theorem incT_mapR (n m : Nat) (f : Nat → Int) (hf : ∀ i, i < n → 0 ≤ f i ∧ f i ≤ 1000000000) : incT (mapR n f) m = mapR n (fun j => f j + if j < m then 1 else 0) := by
 refine List.ext_getElem (by rw [incT_length, mapR_length, mapR_length]) fun i h1 h2 => ?_
 have h3 := h1
 rw [incT_length, mapR_length] at h3
 have := hf i h3
 simp only [incT, List.getElem_append, List.length_map, List.length_take, mapR_length, List.getElem_map, List.getElem_take, List.getElem_drop, mapR_get]
 split
 · rw [w64 (by omega) (by omega), if_pos (by omega)]
 · rw [if_neg (by omega)]
   by_cases hm : m ≤ n
   · rw [show m + (i - min m n) = i from by omega]; omega
   · omega
theorem conj_fold (n : Int) (h0 : 0 ≤ n) : ∀ (l : List Int) (f : Nat → Int), l.length ≤ 1000000 → (∀ i, i < n.toNat → 0 ≤ f i ∧ f i + l.length ≤ 1000000) → l.foldl (conjStep n) (mapR n.toNat f) = mapR n.toNat (fun j => f j + (gtN l j : Nat))
 | [], f, _, _ => by
  refine mapR_congr fun i _ => ?_
  simp [gtN]
 | x :: l, f, hl, hf => by
  rw [List.foldl_cons]
  unfold conjStep
  rw [incT_mapR _ _ _ (fun i hi => by have := hf i hi; rw [List.length_cons] at this; omega)]
  have := conj_fold n h0 l (fun j => f j + if j < (min x n).toNat then 1 else 0) (by rw [List.length_cons] at hl; omega) (fun i hi => by
   have := hf i hi
   rw [List.length_cons] at this
   split <;> omega)
  unfold conjStep at this
  rw [this]
  refine mapR_congr fun i hi => ?_
  simp only [gtN, List.countP_cons, decide_eq_true_eq]
  have : i < (min x n).toNat ↔ (i : Int) < x := by omega
  simp only [this]
  split <;> simp <;> omega
theorem conjL_eq (l : List Int) (n : Int) (h0 : 0 ≤ n) (hl : l.length ≤ 1000000) : conjL l n = mapR n.toNat (fun j => (gtN l j : Int)) := by
 unfold conjL
 have e : List.replicate n.toNat (0 : Int) = mapR n.toNat (fun _ => 0) := by
  refine List.ext_getElem (by rw [mapR_length, List.length_replicate]) fun i h1 h2 => ?_
  rw [mapR_get, List.getElem_replicate]
 rw [e, conj_fold n h0 l _ hl (fun i _ => by omega)]
 refine mapR_congr fun i _ => by omega
theorem conjL_desc (l : List Int) (n : Int) (h0 : 0 ≤ n) (hl : l.length ≤ 1000000) : Desc (conjL l n) := by
 rw [conjL_eq l n h0 hl]
 unfold Desc
 rw [List.pairwise_iff_getElem]
 intro i j hi hj hij
 rw [mapR_get, mapR_get]
 have := gtN_anti l (i := i) (j := j) (by omega)
 omega
end Go.Proofs.Ytnlimjejllakoaa.A

-- made by a program of this repo (wip/pp.py) through the kit's printer
namespace Go.Proofs.Ytnlimjejllakoaa.A
open Go.RowKit Go.Proofs.YtnlimjejllakoaaW.PrintWords Go.Proofs.YtnlimjejllakoaaW.PrintLast Go.Proofs.YtnlimjejllakoaaW.PrintMore
attribute [local go_sem] max2_int min2_int max_two min_two max_three min_three max_four min_four
set_option linter.unusedVariables false
set_option linter.unusedSimpArgs false

end Go.Proofs.Ytnlimjejllakoaa.A

-- made by a program of this repo (wip/pp.py) through the kit's printer
namespace Go.Proofs.Ytnlimjejllakoaa.A
open Go.RowKit Go.Proofs.YtnlimjejllakoaaW.PrintWords Go.Proofs.YtnlimjejllakoaaW.PrintLast Go.Proofs.YtnlimjejllakoaaW.PrintMore
attribute [local go_sem] max2_int min2_int max_two min_two max_three min_three max_four min_four
set_option linter.unusedVariables false
set_option linter.unusedSimpArgs false

end Go.Proofs.Ytnlimjejllakoaa.A

-- made by a program of this repo (wip/pp.py) through the kit's printer
namespace Go.Proofs.Ytnlimjejllakoaa.A
open Go.RowKit Go.Proofs.YtnlimjejllakoaaW.PrintWords Go.Proofs.YtnlimjejllakoaaW.PrintLast Go.Proofs.YtnlimjejllakoaaW.PrintMore
attribute [local go_sem] max2_int min2_int max_two min_two max_three min_three max_four min_four
set_option linter.unusedVariables false
set_option linter.unusedSimpArgs false

end Go.Proofs.Ytnlimjejllakoaa.A

-- made by a program of this repo (wip/pp.py) through the kit's printer
namespace Go.Proofs.Ytnlimjejllakoaa.A
open Go.RowKit Go.Proofs.YtnlimjejllakoaaW.PrintWords Go.Proofs.YtnlimjejllakoaaW.PrintLast Go.Proofs.YtnlimjejllakoaaW.PrintMore
attribute [local go_sem] max2_int min2_int max_two min_two max_three min_three max_four min_four
set_option linter.unusedVariables false
set_option linter.unusedSimpArgs false

end Go.Proofs.Ytnlimjejllakoaa.A

-- made by a program of this repo (wip/pp.py) through the kit's printer
namespace Go.Proofs.Ytnlimjejllakoaa.A
open Go.RowKit Go.Proofs.YtnlimjejllakoaaW.PrintWords Go.Proofs.YtnlimjejllakoaaW.PrintLast Go.Proofs.YtnlimjejllakoaaW.PrintMore
attribute [local go_sem] max2_int min2_int max_two min_two max_three min_three max_four min_four
set_option linter.unusedVariables false
set_option linter.unusedSimpArgs false

end Go.Proofs.Ytnlimjejllakoaa.A

namespace Go.Proofs.Ytnlimjejllakoaa.A
open Go.RowKit Go.Proofs.YtnlimjejllakoaaW.PrintWords Go.Proofs.YtnlimjejllakoaaW.PrintLast Go.Proofs.YtnlimjejllakoaaW.PrintMore
set_option linter.unusedVariables false
set_option linter.unusedSimpArgs false
theorem rd_mem {l : List Int} {i : Int} (h0 : 0 ≤ i) (h1 : i < l.length) : rd l i ∈ l := by
 have hi : i.toNat < l.length := by omega
 have e : rd l i = l[i.toNat] := rdi h0 h1
 rw [e]
 exact List.getElem_mem hi
end Go.Proofs.Ytnlimjejllakoaa.A

namespace Go.Proofs.Ytnlimjejllakoaa.A
open Go.RowKit Go.Proofs.YtnlimjejllakoaaW.PrintWords Go.Proofs.YtnlimjejllakoaaW.PrintLast Go.Proofs.YtnlimjejllakoaaW.PrintMore
set_option linter.unusedVariables false
set_option linter.unusedSimpArgs false
def pre (x : List Int) (m : Nat) : Int := (x.take m).sum
theorem pre_zero (x : List Int) : pre x 0 = 0 := rfl
theorem pre_succ {x : List Int} {m : Nat} (h : m < x.length) : pre x (m + 1) = pre x m + rd x (m : Int) := by
 unfold pre
 rw [List.take_succ_eq_append_getElem h, List.sum_append, rdn h, List.sum_cons, List.sum_nil, Int.add_zero]
theorem pre_all {x : List Int} {m : Nat} (h : x.length ≤ m) : pre x m = x.sum := by
 unfold pre
 rw [List.take_of_length_le h]
theorem psums_get : ∀ (l : List Int) (s : Int) (j : Nat) (h : j < (psums s l).length), (psums s l)[j] = s + pre l (j + 1)
 | [], s, j, h => by simp [psums] at h
 | x :: l, s, 0, h => by simp [psums, pre]
 | x :: l, s, j + 1, h => by
  have h' : j < (psums (s + x) l).length := by
   rw [psums, List.length_cons] at h
   omega
  have := psums_get l (s + x) j h'
  simp only [psums, List.getElem_cons_succ]
  rw [this]
  simp only [pre, List.take_succ_cons, List.sum_cons]
  omega
/-- Every partial sum of t is at most that of x; the sums are one. -/
def Dom (x t : List Int) : Prop := x.length = t.length ∧ x.sum = t.sum ∧ ∀ m, pre t m ≤ pre x m
theorem majB_dom (a b : List Int) : majB a b = true ↔ Dom (descL b) (descL a) := by
 rw [majB_iff]
 unfold Dom
 rw [descL_length, descL_length, descL_sum, descL_sum]
 constructor
 · rintro ⟨h1, h2, h3⟩
   refine ⟨h1.symm, h2.symm, fun m => ?_⟩
   cases m with
   | zero => rw [pre_zero, pre_zero]; exact Int.le_refl _
   | succ m =>
    by_cases hm : m < a.length
    · have h := h3 m (by rw [partL_length]; exact hm) (by rw [partL_length]; omega)
      unfold partL at h
      rw [psums_get, psums_get] at h
      omega
    · rw [pre_all (by rw [descL_length]; omega), pre_all (by rw [descL_length]; omega), descL_sum, descL_sum]
      omega
 · rintro ⟨h1, h2, h3⟩
   refine ⟨h1.symm, h2.symm, fun j q1 q2 => ?_⟩
   have e1 : (partL a)[j] = 0 + pre (descL a) (j + 1) := psums_get _ _ _ q1
   have e2 : (partL b)[j] = 0 + pre (descL b) (j + 1) := psums_get _ _ _ q2
   have := h3 (j + 1)
   omega
theorem desc_rd {x : List Int} (h : Desc x) {a b : Nat} (hab : a ≤ b) (hb : b < x.length) : rd x (b : Int) ≤ rd x (a : Int) := by
 rw [rdn hb, rdn (show a < x.length by omega)]
 rcases Nat.lt_or_ge a b with hlt | hge
 · unfold Desc at h
   exact List.pairwise_iff_getElem.1 h a b (by omega) hb hlt
 · have : a = b := by omega
   subst this
   exact Int.le_refl _
end Go.Proofs.Ytnlimjejllakoaa.A

namespace Go.Proofs.Ytnlimjejllakoaa.A
open Go.RowKit Go.Proofs.YtnlimjejllakoaaW.PrintWords Go.Proofs.YtnlimjejllakoaaW.PrintLast Go.Proofs.YtnlimjejllakoaaW.PrintMore
set_option linter.unusedVariables false
set_option linter.unusedSimpArgs false
/-! being majorized, told by the excess over each number -/
def ex (l : List Int) (t : Int) : Int := (l.map fun x => max (x - t) 0).sum
theorem ex_nil (t : Int) : ex [] t = 0 := rfl
theorem ex_cons (x : Int) (l : List Int) (t : Int) : ex (x :: l) t = max (x - t) 0 + ex l t := by simp [ex]
theorem ex_perm {a b : List Int} (h : a.Perm b) (t : Int) : ex a t = ex b t := perm_sum (h.map _)
theorem ex_desc (a : List Int) (t : Int) : ex (descL a) t = ex a t := ex_perm (descL_perm a) t
theorem ex_nn : ∀ (l : List Int) (t : Int), 0 ≤ ex l t
 | [], t => by rw [ex_nil]; exact Int.le_refl _
 | x :: l, t => by
  have := ex_nn l t
  rw [ex_cons]
  omega
theorem pre_cons (x : Int) (l : List Int) (m : Nat) : pre (x :: l) (m + 1) = x + pre l m := by simp [pre]
theorem pre_ex (t : Int) : ∀ (l : List Int) (m : Nat), m ≤ l.length → pre l m ≤ m * t + ex l t
 | l, 0, _ => by
  have := ex_nn l t
  rw [pre_zero]
  simp
  exact this
 | [], m + 1, h => by simp at h
 | x :: l, m + 1, h => by
  have ih := pre_ex t l m (by simpa using h)
  rw [pre_cons, ex_cons, Int.natCast_add, Int.add_mul]
  simp only [Int.natCast_one, Int.one_mul]
  omega
theorem pre_ex_eq (t : Int) : ∀ (l : List Int) (k : Nat), k ≤ l.length → (∀ i (h : i < l.length), i < k → t ≤ l[i]) → (∀ i (h : i < l.length), k ≤ i → l[i] ≤ t) → pre l k = k * t + ex l t
 | [], k, h, _, _ => by
  have : k = 0 := by simpa using h
  subst this
  simp [pre_zero, ex_nil]
 | x :: l, 0, h, h1, h2 => by
  have ih := pre_ex_eq t l 0 (Nat.zero_le _) (fun i _ hi => absurd hi (Nat.not_lt_zero _)) (fun i hi _ => h2 (i + 1) (by simpa using hi) (Nat.zero_le _))
  have hx : x ≤ t := h2 0 (by simp) (Nat.le_refl _)
  rw [pre_zero] at ih ⊢
  rw [ex_cons]
  simp at ih ⊢
  omega
 | x :: l, k + 1, h, h1, h2 => by
  have ih := pre_ex_eq t l k (by simpa using h) (fun i hi hk => h1 (i + 1) (by simpa using hi) (by omega)) (fun i hi hk => h2 (i + 1) (by simpa using hi) (by omega))
  have hx : t ≤ x := h1 0 (by simp) (by omega)
  rw [pre_cons, ex_cons, Int.natCast_add, Int.add_mul]
  simp only [Int.natCast_one, Int.one_mul]
  omega
theorem cut_exists (t : Int) : ∀ (l : List Int), Desc l → ∃ k, k ≤ l.length ∧ (∀ i (h : i < l.length), i < k → t ≤ l[i]) ∧ (∀ i (h : i < l.length), k ≤ i → l[i] ≤ t)
 | [], _ => ⟨0, Nat.le_refl _, fun i h => absurd h (Nat.not_lt_zero _), fun i h => absurd h (Nat.not_lt_zero _)⟩
 | x :: l, hd => by
  unfold Desc at hd
  rw [List.pairwise_cons] at hd
  by_cases hx : t ≤ x
  · obtain ⟨k, h1, h2, h3⟩ := cut_exists t l hd.2
    refine ⟨k + 1, by simpa using h1, fun i h hi => ?_, fun i h hi => ?_⟩
    · cases i with
      | zero => exact hx
      | succ i => exact h2 i (by simpa using h) (by omega)
    · cases i with
      | zero => omega
      | succ i => exact h3 i (by simpa using h) (by omega)
  · refine ⟨0, Nat.zero_le _, fun i h hi => absurd hi (Nat.not_lt_zero _), fun i h _ => ?_⟩
    cases i with
    | zero =>
     show x ≤ t
     omega
    | succ i =>
     have hi : i < l.length := by simpa using h
     have := hd.1 l[i] (List.getElem_mem hi)
     show l[i] ≤ t
     omega
theorem ex_pre {l : List Int} (hd : Desc l) (t : Int) : ∃ k, k ≤ l.length ∧ pre l k = k * t + ex l t := by
 obtain ⟨k, h1, h2, h3⟩ := cut_exists t l hd
 exact ⟨k, h1, pre_ex_eq t l k h1 h2 h3⟩
theorem pre_at {l : List Int} (hd : Desc l) (m : Nat) (hm : m < l.length) : pre l (m + 1) = (m + 1 : Nat) * rd l (m : Int) + ex l (rd l (m : Int)) := by
 refine pre_ex_eq _ l (m + 1) hm (fun i h hi => ?_) (fun i h hi => ?_)
 · have := desc_rd hd (show i ≤ m by omega) hm
   rw [rdn h] at this
   exact this
 · have := desc_rd hd (show m ≤ i by omega) h
   rw [rdn h] at this
   exact this
theorem dom_ex {x y : List Int} (hx : Desc x) (hy : Desc y) : Dom y x ↔ x.length = y.length ∧ x.sum = y.sum ∧ ∀ t, ex x t ≤ ex y t := by
 unfold Dom
 constructor
 · rintro ⟨h1, h2, h3⟩
   refine ⟨h1.symm, h2.symm, fun t => ?_⟩
   obtain ⟨k, hk, e⟩ := ex_pre hx t
   have a := h3 k
   have b := pre_ex t y k (by omega)
   omega
 · rintro ⟨h1, h2, h3⟩
   refine ⟨h1.symm, h2.symm, fun m => ?_⟩
   cases m with
   | zero => rw [pre_zero, pre_zero]; exact Int.le_refl _
   | succ m =>
    by_cases hm : m < y.length
    · have a := pre_at hy m hm
      have b := pre_ex (rd y (m : Int)) x (m + 1) (by omega)
      have c := h3 (rd y (m : Int))
      omega
    · rw [pre_all (by omega), pre_all (by omega)]
      omega
theorem maj_ex (a b : List Int) : majB a b = true ↔ a.length = b.length ∧ a.sum = b.sum ∧ ∀ t, ex a t ≤ ex b t := by
 rw [majB_dom, dom_ex (descL_desc a) (descL_desc b), descL_length, descL_length, descL_sum, descL_sum]
 simp only [ex_desc]
theorem sum_ex_low : ∀ (l : List Int) (t : Int), (∀ x ∈ l, t ≤ x) → ex l t = l.sum - l.length * t
 | [], t, _ => by simp [ex_nil]
 | x :: l, t, h => by
  have ih := sum_ex_low l t (fun y hy => h y (List.mem_cons_of_mem _ hy))
  have := h x List.mem_cons_self
  rw [ex_cons, ih, List.sum_cons, List.length_cons, Int.natCast_add, Int.add_mul]
  simp only [Int.natCast_one, Int.one_mul]
  omega
theorem ex_high : ∀ (l : List Int) (t : Int), (∀ x ∈ l, x ≤ t) → ex l t = 0
 | [], t, _ => rfl
 | x :: l, t, h => by
  have ih := ex_high l t (fun y hy => h y (List.mem_cons_of_mem _ hy))
  have := h x List.mem_cons_self
  rw [ex_cons, ih]
  omega
theorem gt_ex : ∀ (l : List Int) (j : Nat), ex l (j : Int) - ex l ((j + 1 : Nat) : Int) = (gtN l j : Int)
 | [], j => by simp [ex_nil, gtN]
 | x :: l, j => by
  have ih := gt_ex l j
  unfold gtN at ih ⊢
  rw [ex_cons, ex_cons, List.countP_cons]
  by_cases h : (j : Int) < x
  · rw [if_pos (by simpa using h)]
    omega
  · rw [if_neg (by simpa using h)]
    omega
theorem conj_pre (l : List Int) (n : Int) (h0 : 0 ≤ n) (hl : l.length ≤ 1000000) (hp : ∀ x ∈ l, 0 ≤ x) : ∀ m : Nat, m ≤ n.toNat → pre (conjL l n) m = l.sum - ex l (m : Int)
 | 0, _ => by
  rw [pre_zero, show ((0 : Nat) : Int) = 0 from rfl, sum_ex_low l 0 hp]
  simp
 | m + 1, h => by
  have ih := conj_pre l n h0 hl hp m (by omega)
  have hlen : (conjL l n).length = n.toNat := conjL_length l n
  have hg := gt_ex l m
  rw [pre_succ (by omega), ih]
  have e : rd (conjL l n) (m : Int) = (gtN l m : Int) := by
   rw [rdn (by omega)]
   simp only [conjL_eq l n h0 hl, mapR_get]
  rw [e]
  omega
theorem conj_sum (l : List Int) (n : Int) (h0 : 0 ≤ n) (hl : l.length ≤ 1000000) (hp : ∀ x ∈ l, 0 ≤ x ∧ x ≤ n) : (conjL l n).sum = l.sum := by
 have h := conj_pre l n h0 hl (fun x hx => (hp x hx).1) n.toNat (Nat.le_refl _)
 rw [pre_all (by rw [conjL_length]; omega), show ((n.toNat : Nat) : Int) = n by omega, ex_high l n (fun x hx => (hp x hx).2)] at h
 omega
/-- Conjugates turn the order round. -/
theorem conj_turn (a b : List Int) (n : Int) (h0 : 0 ≤ n) (hab : a.length = b.length) (hl : a.length ≤ 1000000) (ha : ∀ x ∈ a, 0 ≤ x ∧ x ≤ n) (hb : ∀ x ∈ b, 0 ≤ x ∧ x ≤ n) : majB a b = true ↔ majB (conjL b n) (conjL a n) = true := by
 have da : Desc (conjL a n) := conjL_desc a n h0 hl
 have db : Desc (conjL b n) := conjL_desc b n h0 (by omega)
 rw [majB_dom (conjL b n), descL_of_desc da, descL_of_desc db, maj_ex]
 unfold Dom
 rw [conjL_length, conjL_length, conj_sum a n h0 hl ha, conj_sum b n h0 (by omega) hb]
 constructor
 · rintro ⟨h1, h2, h3⟩
   refine ⟨rfl, h2, fun m => ?_⟩
   by_cases hm : m ≤ n.toNat
   · have := h3 (m : Int)
     rw [conj_pre a n h0 hl (fun x hx => (ha x hx).1) m hm, conj_pre b n h0 (by omega) (fun x hx => (hb x hx).1) m hm]
     omega
   · rw [pre_all (by rw [conjL_length]; omega), pre_all (by rw [conjL_length]; omega), conj_sum a n h0 hl ha, conj_sum b n h0 (by omega) hb]
     omega
 · rintro ⟨_, h2, h3⟩
   refine ⟨hab, h2, fun t => ?_⟩
   rcases Int.lt_or_le t 0 with ht | ht
   · rw [sum_ex_low a t (fun x hx => by have := ha x hx; omega), sum_ex_low b t (fun x hx => by have := hb x hx; omega), hab]
     omega
   · obtain ⟨m, rfl⟩ := Int.eq_ofNat_of_zero_le ht
     by_cases hm : m ≤ n.toNat
     · have := h3 m
       rw [conj_pre a n h0 hl (fun x hx => (ha x hx).1) m hm, conj_pre b n h0 (by omega) (fun x hx => (hb x hx).1) m hm] at this
       have e : ((m : Nat) : Int) = Int.ofNat m := rfl
       omega
     · rw [ex_high a _ (fun x hx => by have := ha x hx; have e : ((m : Nat) : Int) = Int.ofNat m := rfl; omega), ex_high b _ (fun x hx => by have := hb x hx; have e : ((m : Nat) : Int) = Int.ofNat m := rfl; omega)]
       exact Int.le_refl _
end Go.Proofs.Ytnlimjejllakoaa.A

namespace Go.Proofs.Ytnlimjejllakoaa.A
open Go.RowKit Go.Proofs.YtnlimjejllakoaaW.PrintWords Go.Proofs.YtnlimjejllakoaaW.PrintLast Go.Proofs.YtnlimjejllakoaaW.PrintMore
set_option linter.unusedVariables false
set_option linter.unusedSimpArgs false
/-! conjugates undo themselves; meets and joins as bounds -/
theorem gt_desc : ∀ (d : List Int), Desc d → ∀ (i j : Nat) (h : i < d.length), i < gtN d j ↔ (j : Int) < d[i]
 | [], _, i, j, h => by simp at h
 | x :: l, hd, i, j, h => by
  unfold Desc at hd
  rw [List.pairwise_cons] at hd
  have hz : ¬ (j : Int) < x → gtN l j = 0 := fun hx => by
   unfold gtN
   rw [List.countP_eq_zero]
   intro y hy
   have := hd.1 y hy
   simp
   omega
  have e : gtN (x :: l) j = gtN l j + if (j : Int) < x then 1 else 0 := by
   unfold gtN
   rw [List.countP_cons]
   by_cases h : (j : Int) < x <;> simp [h]
  rw [e]
  cases i with
  | zero =>
   by_cases hx : (j : Int) < x
   · simp [hx]
   · simp [hx, hz hx]
  | succ i =>
   have hi : i < l.length := by simpa using h
   have ih := gt_desc l hd.2 i j hi
   by_cases hx : (j : Int) < x
   · simp only [if_pos hx, List.getElem_cons_succ]
     rw [← ih]
     omega
   · have := hd.1 l[i] (List.getElem_mem hi)
     simp only [if_neg hx, hz hx, List.getElem_cons_succ]
     omega
theorem gtN_perm {a b : List Int} (h : a.Perm b) (j : Nat) : gtN a j = gtN b j := h.countP_eq _
theorem count_below (v : Nat) : ∀ n : Nat, v ≤ n → (List.range n).countP (fun j => decide (j < v)) = v
 | 0, h => by
  have : v = 0 := by omega
  subst this
  rfl
 | n + 1, h => by
  rw [List.range_succ, List.countP_append]
  by_cases hv : v ≤ n
  · rw [count_below v n hv]
    simp
    omega
  · have e : v = n + 1 := by omega
    subst e
    have : (List.range n).countP (fun j => decide (j < n + 1)) = (List.range n).length := by
     rw [List.countP_eq_length]
     intro j hj
     have := List.mem_range.1 hj
     simp
     omega
    rw [this]
    simp
theorem conj_conj (a : List Int) (n : Int) (h0 : 0 ≤ n) (hn : n ≤ 1000000) (hl : a.length ≤ 1000000) (hp : ∀ x ∈ a, 0 ≤ x ∧ x ≤ n) : conjL (conjL a n) (a.length : Int) = descL a := by
 have hc : (conjL a n).length = n.toNat := conjL_length a n
 rw [conjL_eq _ (a.length : Int) (by omega) (by omega)]
 refine List.ext_getElem (by rw [mapR_length, descL_length]; omega) fun i h1 h2 => ?_
 rw [mapR_get, conjL_eq a n h0 hl]
 have hi : i < (descL a).length := h2
 have hv := hp _ (descL_mem.1 (List.getElem_mem hi))
 have e : gtN (mapR n.toNat fun j => (gtN a j : Int)) i = ((descL a)[i]).toNat := by
  unfold gtN mapR
  rw [List.countP_map, ← count_below ((descL a)[i]).toNat n.toNat (by omega)]
  refine List.countP_congr fun j _ => ?_
  have := gt_desc (descL a) (descL_desc a) i j hi
  rw [gtN_perm (descL_perm a)] at this
  simp only [Function.comp, decide_eq_true_eq]
  unfold gtN at this
  omega
 rw [e]
 omega
end Go.Proofs.Ytnlimjejllakoaa.A

namespace Go.Proofs.Ytnlimjejllakoaa.A
open Go.RowKit Go.Proofs.YtnlimjejllakoaaW.PrintWords Go.Proofs.YtnlimjejllakoaaW.PrintLast Go.Proofs.YtnlimjejllakoaaW.PrintMore
set_option linter.unusedVariables false
set_option linter.unusedSimpArgs false
theorem slMax_l (l : List Int) (n : Int) (hx : l.length ≤ 1048576) : ∀ (d i : Nat) (m : Int), i + d = l.length → ∃ r, Ev (fun k => slices_Max_int_int.l0 k l m (i : Int)) r ∧ (r ≤ n ↔ m ≤ n ∧ ∀ x ∈ l.drop i, x ≤ n)
 | 0, i, m, h => by
  refine ⟨m, Ev.succ ?_, ?_⟩
  · simp only [slices_Max_int_int.l0, if_neg (show ¬ (i : Int) < (l.length : Int) by omega)]
    exact Ev.now _
  · rw [List.drop_eq_nil_of_le (by omega)]
    simp
 | d + 1, i, m, h => by
  have hi : i < l.length := by omega
  obtain ⟨r, h1, h2⟩ := slMax_l l n hx d (i + 1) (mx m l[i]) (by omega)
  refine ⟨r, Ev.succ ?_, ?_⟩
  · simp only [slices_Max_int_int.l0, if_pos (show (i : Int) < (l.length : Int) by omega), if_pos (show (0 : Int) ≤ (i : Int) by omega), rdn hi, wsucc hi (by omega)]
    exact h1
  · rw [h2, List.drop_eq_getElem_cons hi]
    simp only [List.mem_cons, forall_eq_or_imp]
    have : mx m l[i] ≤ n ↔ m ≤ n ∧ l[i] ≤ n := by unfold mx; omega
    rw [this, and_assoc]
theorem slMax_ev (l : List Int) (n : Int) (h0 : 0 < l.length) (hx : l.length ≤ 1048576) : ∃ r, Ev (fun k => slices_Max_int_int.f k l) r ∧ (r ≤ n ↔ ∀ x ∈ l, x ≤ n) := by
 obtain ⟨r, h1, h2⟩ := slMax_l l n hx (l.length - 1) 1 l[0] (by omega)
 refine ⟨r, ?_, ?_⟩
 · unfold slices_Max_int_int.f
   simp only [if_neg (show ¬ (l.length : Int) < 1 by omega), if_pos (show (0 : Int) < (l.length : Int) by omega), show rd l 0 = l[0] from rdn (i := 0) h0]
   exact h1
 · rw [h2]
   obtain ⟨x, t, rfl⟩ : ∃ x t, l = x :: t := by
    cases l with
    | nil => simp at h0
    | cons x t => exact ⟨x, t, rfl⟩
   simp
def conjR (l : List Int) (n : Int) : List Int × Bool := if goodL l = true then (if 1 ≤ n ∧ n ≤ 8 then (if inR 0 n l = true then (conjL l n, true) else ([], false)) else ([], false)) else ([], false)
theorem specConjugateOf_ev (l : List Int) (n : Int) (hx : l.length ≤ 1048576) : Ev (fun k => spec_ConjugateOf.f k l n) (conjR l n) := by
 unfold spec_ConjugateOf.f conjR
 refine Ev.bind (liGood_ev l (by omega)) (Ev.ite (fun hg => ?_) (fun _ => Ev.now _))
 simp only [l1In_eq, Option.bind_some, decide_eq_true_eq]
 refine Ev.ite (fun hn => ?_) (fun _ => Ev.now _)
 exact Ev.bind (l1All_ev l 0 n (by omega)) (Ev.ite (fun _ => Ev.bind (liConjugate_ev l n hx (by omega) (by omega)) (Ev.now _)) (fun _ => Ev.now _))
theorem implConjugateOf_ev (l : List Int) (n : Int) (hx : l.length ≤ 1048576) : Ev (fun k => impl_ConjugateOf.f k l n) (conjR l n) := by
 unfold impl_ConjugateOf.f conjR impl_isMany.f
 refine Ev.bind (implIsList_ev l (by omega)) (Ev.ite (fun hg => ?_) (fun _ => Ev.now _))
 simp only [within_eq, Option.bind_some, decide_eq_true_eq]
 refine Ev.ite (fun hn => ?_) (fun _ => Ev.now _)
 have hb := (goodL_iff l).1 hg
 obtain ⟨r, h1, h2⟩ := slMax_ev l n (by omega) hx
 refine Ev.bind h1 ?_
 have e : inR 0 n l = true ↔ r ≤ n := by
  rw [h2]
  unfold inR
  simp only [List.all_eq_true, decide_eq_true_eq]
  exact ⟨fun h x hx' => (h x hx').2, fun h x hx' => ⟨(hb.2.2 x hx').1, h x hx'⟩⟩
 by_cases c : r ≤ n
 · simp only [if_neg (show ¬ r > n by omega), if_pos (e.2 c)]
   exact Ev.bind (implConj_ev l n hx (by omega) (by omega)) (Ev.now _)
 · simp only [if_pos (show r > n by omega), if_neg (fun h => c (e.1 h))]
   exact Ev.now _
theorem conjR_len (l : List Int) (n : Int) (hx : l.length ≤ 1048576) : (conjR l n).1.length ≤ 1048576 := by
 unfold conjR
 split
 · split
   · split
     · simp only [conjL_length]
       omega
     · simp
   · simp
 · simp
end Go.Proofs.Ytnlimjejllakoaa.A

namespace Go.Proofs.Ytnlimjejllakoaa.A
open Go.RowKit Go.Proofs.YtnlimjejllakoaaW.PrintWords Go.Proofs.YtnlimjejllakoaaW.PrintLast Go.Proofs.YtnlimjejllakoaaW.PrintMore
set_option linter.unusedVariables false
set_option linter.unusedSimpArgs false
/-! what the draws give: small numbers and short lists -/
theorem tmod_bd (x n : Int) (h0 : 0 ≤ x) (hn : 0 < n) : 0 ≤ Int.tmod x n ∧ Int.tmod x n < n := by
 rw [Int.tmod_eq_emod_of_nonneg h0]
 exact ⟨Int.emod_nonneg _ (by omega), Int.emod_lt_of_pos _ hn⟩
theorem and255 (z : Int) : 0 ≤ Go.bits .and .u64 (IntKind.u64.wrap z / 1099511627776) 255 ∧ Go.bits .and .u64 (IntKind.u64.wrap z / 1099511627776) 255 ≤ 255 := by
 have e := IntKind.wrap_u64 z
 have h := bits_mask .u64 64 (by decide) wraps_u64 8 (by decide) (IntKind.u64.wrap z / 1099511627776) (by omega) (by omega)
 have h' : Go.bits .and .u64 (IntKind.u64.wrap z / 1099511627776) 255 = IntKind.u64.wrap z / 1099511627776 % 256 := by simpa using h
 rw [h']
 omega
def Bytes (l : List Int) : Prop := l.length ≤ 1048576 ∧ ∀ x ∈ l, 0 ≤ x ∧ x ≤ 255
theorem next_ev (l : List Int) (hl : Bytes l) (a s : Int) (h0 : 0 ≤ a) (h1 : a ≤ 1000000000) : ∃ x s', spec_l1Cur_next.f l a s = some (x, a + 1, s') ∧ 0 ≤ x ∧ x ≤ 255 := by
 have hb := hl.1
 unfold spec_l1Cur_next.f
 rw [w64 (x := a + 1) (by omega) (by omega)]
 by_cases c : a < (l.length : Int)
 · simp only [if_pos c, if_pos h0]
   have hx := hl.2 _ (rd_mem h0 c)
   by_cases c2 : a + 1 ≤ (l.length : Int)
   · simp only [if_pos c2]
     refine ⟨_, _, rfl, ?_⟩
     rw [w64 (by omega) (by omega)]
     exact hx
   · omega
 · simp only [if_neg c]
   by_cases c2 : a + 1 ≤ (l.length : Int)
   · omega
   · simp only [if_neg c2]
     refine ⟨_, _, rfl, ?_⟩
     have := and255 (IntKind.u64.wrap (IntKind.u64.wrap (s * 6364136223846793005) + 0) + 1442695040888963407)
     rw [w64 (by omega) (by omega)]
     exact this
theorem pick_ev (l : List Int) (hl : Bytes l) (a s n : Int) (h0 : 0 ≤ a) (h1 : a ≤ 900000000) : ∃ x a' s', spec_l1Cur_pick.f l a s n = some (x, a', s') ∧ 0 ≤ x ∧ (x = 0 ∨ x < n) ∧ a ≤ a' ∧ a' ≤ a + 2 := by
 unfold spec_l1Cur_pick.f
 by_cases c : n ≤ 1
 · simp only [if_pos c]
   exact ⟨_, _, _, rfl, by omega, by omega, by omega, by omega⟩
 · simp only [if_neg c]
   obtain ⟨x, s1, e1, b1, b2⟩ := next_ev l hl a s h0 (by omega)
   simp only [e1, Option.bind_some]
   by_cases c2 : n > 200
   · simp only [if_pos c2]
     obtain ⟨y, s2, e2, b3, b4⟩ := next_ev l hl (a + 1) s1 (by omega) (by omega)
     simp only [e2, Option.bind_some, if_neg (show ¬ n = 0 by omega)]
     have t := tmod_bd (x * 256 + y) n (by omega) (by omega)
     refine ⟨_, _, _, rfl, ?_⟩
     rw [w64 (x := x * 256) (by omega) (by omega), w64 (x := x * 256 + y) (by omega) (by omega)]
     omega
   · simp only [if_neg c2, if_neg (show ¬ n = 0 by omega)]
     have t := tmod_bd x n (by omega) (by omega)
     exact ⟨_, _, _, rfl, by omega, by omega, by omega, by omega⟩
theorem one_ev (l : List Int) (hl : Bytes l) (a s n : Int) (h0 : 0 ≤ a) (h1 : a ≤ 900000000) : ∃ x a' s', spec_l1Cur_one.f l a s n = some (x, a', s') ∧ a ≤ a' ∧ a' ≤ a + 2 := by
 unfold spec_l1Cur_one.f
 obtain ⟨x, a', s', e, _, _, b1, b2⟩ := pick_ev l hl a s n h0 h1
 simp only [e, Option.bind_some]
 exact ⟨_, _, _, rfl, b1, b2⟩
theorem among_ev (l : List Int) (hl : Bytes l) (a s : Int) (L : List Int) (hL : 0 < L.length) (h0 : 0 ≤ a) (h1 : a ≤ 900000000) : ∃ x a' s', spec_l1Cur_among.f l a s L = some (x, a', s') ∧ x ∈ L ∧ a ≤ a' ∧ a' ≤ a + 2 := by
 unfold spec_l1Cur_among.f
 obtain ⟨x, a', s', e, b0, b, b1, b2⟩ := pick_ev l hl a s (L.length : Int) h0 h1
 simp only [e, Option.bind_some, if_pos b0, if_pos (show x < (L.length : Int) by omega)]
 exact ⟨_, _, _, rfl, rd_mem b0 (by omega), b1, b2⟩
/-- Short lists of small numbers. -/
structure Bd (n m : Int) (l : List Int) : Prop where
 len : (l.length : Int) ≤ n
 low : ∀ x ∈ l, -1 ≤ x
 high : ∀ x ∈ l, x ≤ m
theorem Bd.le {n m n' m' : Int} {l : List Int} (h : Bd n m l) (h1 : n ≤ n') (h2 : m ≤ m') : Bd n' m' l := ⟨by have := h.len; omega, h.low, fun x hx => by have := h.high x hx; omega⟩
theorem Bd.snoc {n m : Int} {l : List Int} (h : Bd n m l) {x : Int} (h1 : -1 ≤ x) (h2 : x ≤ m) : Bd (n + 1) m (l ++ [x]) := by
 refine ⟨by have := h.len; rw [List.length_append]; simp; omega, fun y hy => ?_, fun y hy => ?_⟩
 · rcases List.mem_append.1 hy with hy | hy
   · exact h.low y hy
   · have : y = x := by simpa using hy
     omega
 · rcases List.mem_append.1 hy with hy | hy
   · exact h.high y hy
   · have : y = x := by simpa using hy
     omega
theorem Bd.nil (n m : Int) (h : 0 ≤ n) : Bd n m [] := ⟨by simpa using h, fun x hx => by simp at hx, fun x hx => by simp at hx⟩
theorem list_l (l : List Int) (hl : Bytes l) (m : Int) (hm : 0 ≤ m) (hm2 : m ≤ 1000) : ∀ (d : Nat) (acc : List Int) (a s : Int), (d : Int) ≤ 10 → acc.length ≤ 10 → 0 ≤ a → a ≤ 800000000 + 10 * (10 - (d : Int)) → Bd (10 - (d : Int)) m acc → ∃ r a' s', Ev (fun k => spec_l1Cur_list.l0 k m acc (d : Int) l a s) (r, a', s') ∧ Bd 10 m r ∧ a ≤ a' ∧ a' ≤ a + 2 * (d : Int)
 | 0, acc, a, s, hd, hc, h0, h1, hb => by
  refine ⟨acc, a, s, Ev.succ ?_, hb.le (by omega) (by omega), by omega, by omega⟩
  simp only [spec_l1Cur_list.l0, if_neg (show ¬ ((0 : Nat) : Int) > 0 by omega)]
  exact Ev.now _
 | d + 1, acc, a, s, hd, hc, h0, h1, hb => by
  obtain ⟨x, a1, s1, e, b0, b, b1, b2⟩ := pick_ev l hl a s (m + 1) h0 (by omega)
  have hl1 := hb.len
  obtain ⟨r, a', s', h, hr, q1, q2⟩ := list_l l hl m hm hm2 d (acc ++ [x]) a1 s1 (by omega) (by rw [List.length_append]; simp; omega) (by omega) (by omega) ((hb.snoc (by omega) (by omega)).le (by omega) (by omega))
  refine ⟨r, a', s', Ev.succ ?_, hr, by omega, by omega⟩
  simp only [spec_l1Cur_list.l0, if_pos (show ((d + 1 : Nat) : Int) > 0 by omega), w64 (x := m + 1) (by omega) (by omega), e, Option.bind_some, if_pos (show acc.length < 17592186044416 by omega), w64 (x := ((d + 1 : Nat) : Int) - 1) (by omega) (by omega)]
  rw [show ((d + 1 : Nat) : Int) - 1 = (d : Int) by omega]
  exact h
theorem list_ev (l : List Int) (hl : Bytes l) (m : Int) (hm : 0 ≤ m) (hm2 : m ≤ 1000) (a s : Int) (h0 : 0 ≤ a) (h1 : a ≤ 700000000) : ∃ r a' s', Ev (fun k => spec_l1Cur_list.f k l a s m) (r, a', s') ∧ Bd 10 m r ∧ a ≤ a' ∧ a' ≤ a + 100 := by
 obtain ⟨x, a1, s1, e, b0, b, b1, b2⟩ := pick_ev l hl a s 6 h0 (by omega)
 obtain ⟨d, hd⟩ := Int.eq_ofNat_of_zero_le (show 0 ≤ 1 + x by omega)
 have hd' : 1 + x = (d : Int) := hd
 obtain ⟨r, a', s', h, hr, q1, q2⟩ := list_l l hl m hm hm2 d [] a1 s1 (by omega) (by simp) (by omega) (by omega) (Bd.nil _ _ (by omega))
 refine ⟨r, a', s', ?_, hr, by omega, by omega⟩
 unfold spec_l1Cur_list.f
 simp only [e, Option.bind_some, w64 (x := 1 + x) (by omega) (by omega)]
 rw [hd']
 exact h
theorem any_l (l : List Int) (hl : Bytes l) (m : Int) (hm : 9 ≤ m) (hm2 : m ≤ 1000) : ∀ (d : Nat) (acc : List Int) (a s : Int), d ≤ 12 → acc.length + d = 12 → 0 ≤ a → a ≤ 800000000 + 10 * (acc.length : Int) → Bd 12 m acc → ∃ r a' s', Ev (fun k => spec_l1Cur_anyList.l0 k acc l a s) (r, a', s') ∧ Bd 12 m r ∧ a ≤ a' ∧ a' ≤ a + 2 + 4 * (d : Int)
 | 0, acc, a, s, hd, hc, h0, h1, hb => by
  obtain ⟨x, a1, s1, e, b0, b, b1, b2⟩ := pick_ev l hl a s 2 h0 (by omega)
  refine ⟨acc, a1, s1, Ev.succ ?_, hb, by omega, by omega⟩
  simp only [spec_l1Cur_anyList.l0, e, Option.bind_some, w64 (x := 8 + x) (by omega) (by omega), if_neg (show ¬ (acc.length : Int) < 8 + x by omega)]
  exact Ev.now _
 | d + 1, acc, a, s, hd, hc, h0, h1, hb => by
  obtain ⟨x, a1, s1, e, b0, b, b1, b2⟩ := pick_ev l hl a s 2 h0 (by omega)
  by_cases c : (acc.length : Int) < 8 + x
  · obtain ⟨y, a2, s2, e2, c0, c3, c1, c2⟩ := pick_ev l hl a1 s1 9 (by omega) (by omega)
    have hbb : Bd 12 m (acc ++ [y]) := by
     refine ⟨by rw [List.length_append]; simp; omega, fun z hz => ?_, fun z hz => ?_⟩
     · rcases List.mem_append.1 hz with hz | hz
       · exact hb.low z hz
       · have : z = y := by simpa using hz
         omega
     · rcases List.mem_append.1 hz with hz | hz
       · exact hb.high z hz
       · have : z = y := by simpa using hz
         omega
    obtain ⟨r, a', s', h, hr, q1, q2⟩ := any_l l hl m hm hm2 d (acc ++ [y]) a2 s2 (by omega) (by rw [List.length_append]; simp; omega) (by omega) (by rw [List.length_append]; simp; omega) hbb
    refine ⟨r, a', s', Ev.succ ?_, hr, by omega, by omega⟩
    simp only [spec_l1Cur_anyList.l0, e, Option.bind_some, w64 (x := 8 + x) (by omega) (by omega), if_pos c, e2, if_pos (show acc.length < 17592186044416 by omega)]
    exact h
  · refine ⟨acc, a1, s1, Ev.succ ?_, hb, by omega, by omega⟩
    simp only [spec_l1Cur_anyList.l0, e, Option.bind_some, w64 (x := 8 + x) (by omega) (by omega), if_neg c]
    exact Ev.now _
theorem anyList_ev (l : List Int) (hl : Bytes l) (m : Int) (hm : 0 ≤ m) (hm2 : m ≤ 1000) (a s : Int) (h0 : 0 ≤ a) (h1 : a ≤ 600000000) : ∃ r a' s', Ev (fun k => spec_l1Cur_anyList.f k l a s m) (r, a', s') ∧ Bd 12 (max m 61) r ∧ a ≤ a' ∧ a' ≤ a + 200 := by
 obtain ⟨L, a1, s1, e1, hL, b1, b2⟩ := list_ev l hl m hm hm2 a s h0 (by omega)
 obtain ⟨x, a2, s2, e2, c0, c3, c1, c2⟩ := pick_ev l hl a1 s1 14 (by omega) (by omega)
 have hlen := hL.len
 have hL' : Bd 12 (max m 61) L := hL.le (by omega) (by omega)
 by_cases t0 : x = 0
 · obtain ⟨y, a3, s3, e3, hy, d1, d2⟩ := among_ev l hl a2 s2 [-1, 0, 60, 61] (by simp) (by omega) (by omega)
   have hy' : -1 ≤ y ∧ y ≤ 61 := by
    simp at hy
    omega
   refine ⟨L ++ [y], a3, s3, ?_, (Bd.snoc (hL.le (n' := 10) (m' := max m 61) (by omega) (by omega)) hy'.1 (by omega)).le (by omega) (by omega), by omega, by omega⟩
   unfold spec_l1Cur_anyList.f
   refine Ev.bind e1 ?_
   simp only [e2, Option.bind_some, if_pos t0, e3, if_pos (show L.length < 17592186044416 by omega)]
   exact Ev.now _
 · by_cases t1 : x = 1
   · obtain ⟨r, a3, s3, e3, hr, d1, d2⟩ := any_l l hl (max m 61) (by omega) (by omega) (12 - L.length) L a2 s2 (by omega) (by omega) (by omega) (by omega) hL'
     refine ⟨r, a3, s3, ?_, hr, by omega, by omega⟩
     unfold spec_l1Cur_anyList.f
     refine Ev.bind e1 ?_
     simp only [e2, Option.bind_some, if_neg t0, if_pos t1]
     exact e3
   · by_cases t2 : x = 2
     · refine ⟨[], a2, s2, ?_, Bd.nil _ _ (by omega), by omega, by omega⟩
       unfold spec_l1Cur_anyList.f
       refine Ev.bind e1 ?_
       simp only [e2, Option.bind_some, if_neg t0, if_neg t1, if_pos t2]
       exact Ev.now _
     · refine ⟨L, a2, s2, ?_, hL', by omega, by omega⟩
       unfold spec_l1Cur_anyList.f
       refine Ev.bind e1 ?_
       simp only [e2, Option.bind_some, if_neg t0, if_neg t1, if_neg t2]
       exact Ev.now _
end Go.Proofs.Ytnlimjejllakoaa.A

-- made by a program of this repo (wip/pp.py) through the kit's printer
namespace Go.Proofs.Ytnlimjejllakoaa.A
open Go.RowKit Go.Proofs.YtnlimjejllakoaaW.PrintWords Go.Proofs.YtnlimjejllakoaaW.PrintLast Go.Proofs.YtnlimjejllakoaaW.PrintMore
attribute [local go_sem] max2_int min2_int max_two min_two max_three min_three max_four min_four
set_option linter.unusedVariables false
set_option linter.unusedSimpArgs false

end Go.Proofs.Ytnlimjejllakoaa.A

-- made by a program of this repo (wip/pp.py) through the kit's printer
namespace Go.Proofs.Ytnlimjejllakoaa.A
open Go.RowKit Go.Proofs.YtnlimjejllakoaaW.PrintWords Go.Proofs.YtnlimjejllakoaaW.PrintLast Go.Proofs.YtnlimjejllakoaaW.PrintMore
attribute [local go_sem] max2_int min2_int max_two min_two max_three min_three max_four min_four
set_option linter.unusedVariables false
set_option linter.unusedSimpArgs false

end Go.Proofs.Ytnlimjejllakoaa.A

namespace Go.Proofs.Ytnlimjejllakoaa.A
open Go.RowKit Go.Proofs.YtnlimjejllakoaaW.PrintWords Go.Proofs.YtnlimjejllakoaaW.PrintLast Go.Proofs.YtnlimjejllakoaaW.PrintMore
set_option linter.unusedVariables false
set_option linter.unusedSimpArgs false
/-! the draw of two lists that fit, mostly -/
theorem Bd.set {n m : Int} {l : List Int} (h : Bd n m l) (i : Nat) {x : Int} (h1 : -1 ≤ x) (h2 : x ≤ m) : Bd n m (l.set i x) := by
 refine ⟨by rw [List.length_set]; exact h.len, fun y hy => ?_, fun y hy => ?_⟩
 · rcases List.mem_or_eq_of_mem_set hy with hy | rfl
   · exact h.low y hy
   · exact h1
 · rcases List.mem_or_eq_of_mem_set hy with hy | rfl
   · exact h.high y hy
   · exact h2
theorem fit_end (l : List Int) (hl : Bytes l) (b acc : List Int) (n : Int) (hb : Bd 12 100 b) (hx : Bd 12 100 acc) (a s : Int) (h0 : 0 ≤ a) (h1 : a ≤ 800000000) : ∃ x y a' s', Ev (fun k => spec_l1Cur_fitting.j1 k b acc n false l a s) (x, y, a', s') ∧ Bd 12 100 x ∧ Bd 12 100 y ∧ a ≤ a' ∧ a' ≤ a + 10 := by
 obtain ⟨t, a1, s1, e, b1, b2⟩ := one_ev l hl a s 5 h0 (by omega)
 cases t with
 | true =>
  refine ⟨b, acc, a1, s1, Ev.succ ?_, hb, hx, by omega, by omega⟩
  simp only [spec_l1Cur_fitting.j1, Bool.false_eq_true, if_false, e, Option.bind_some, if_true]
  exact Ev.now _
 | false =>
  refine ⟨acc, b, a1, s1, Ev.succ ?_, hx, hb, by omega, by omega⟩
  simp only [spec_l1Cur_fitting.j1, Bool.false_eq_true, if_false, e, Option.bind_some]
  exact Ev.now _
theorem fit_l (l : List Int) (hl : Bytes l) (b : List Int) (hb : Bd 12 100 b) : ∀ (d : Nat) (acc : List Int) (a s : Int), (d : Int) ≤ 12 → 0 ≤ a → a ≤ 700000000 - 100 * (d : Int) → Bd 12 (80 - (d : Int)) acc → ∃ x y a' s', Ev (fun k => spec_l1Cur_fitting.l0 k b acc (d : Int) l a s) (x, y, a', s') ∧ Bd 12 100 x ∧ Bd 12 100 y ∧ a ≤ a' ∧ a' ≤ a + 10 + 30 * (d : Int) := by
 intro d
 induction d with
 | zero =>
  intro acc a s hd h0 h1 hacc
  obtain ⟨x, y, a', s', e, q1, q2, q3, q4⟩ := fit_end l hl b acc ((0 : Nat) : Int) hb (hacc.le (by omega) (by omega)) a s h0 (by omega)
  refine ⟨x, y, a', s', Ev.succ ?_, q1, q2, q3, by omega⟩
  simp only [spec_l1Cur_fitting.l0, if_neg (show ¬ ((0 : Nat) : Int) > 0 by omega)]
  exact e
 | succ d ih =>
  intro acc a s hd h0 h1 hacc
  have hlen := hacc.len
  have hbig : Bd 12 100 acc := hacc.le (by omega) (by omega)
  by_cases c : (acc.length : Int) > 1
  · obtain ⟨i, a1, s1, e1, p0, p, p1, p2⟩ := pick_ev l hl a s (acc.length : Int) h0 (by omega)
    obtain ⟨j, a2, s2, e2, r0, r, r1, r2⟩ := pick_ev l hl a1 s1 (acc.length : Int) (by omega) (by omega)
    have hi : i < (acc.length : Int) := by omega
    have hj : j < (acc.length : Int) := by omega
    have b1 := hacc.high _ (rd_mem p0 hi)
    have b2 := hacc.low _ (rd_mem p0 hi)
    have keep : ∀ (a3 s3 : Int), a2 ≤ a3 → a3 ≤ a2 + 2 → ∃ x y a' s', Ev (fun k => spec_l1Cur_fitting.l0 k b acc (wrap64 (((d + 1 : Nat) : Int) - 1)) l a3 s3) (x, y, a', s') ∧ Bd 12 100 x ∧ Bd 12 100 y ∧ a3 ≤ a' ∧ a' ≤ a3 + 10 + 30 * (d : Int) := fun a3 s3 g1 g2 => by
     rw [w64 (by omega) (by omega), show ((d + 1 : Nat) : Int) - 1 = (d : Int) by omega]
     exact ih acc a3 s3 (by omega) (by omega) (by omega) (hacc.le (by omega) (by omega))
    have move : rd acc i > 0 → ∀ (a3 s3 : Int), a2 ≤ a3 → a3 ≤ a2 + 2 → ∃ x y a' s', Ev (fun k => spec_l1Cur_fitting.l0 k b ((acc.set i.toNat (wrap64 (rd acc i - 1))).set j.toNat (wrap64 (rd (acc.set i.toNat (wrap64 (rd acc i - 1))) j + 1))) (wrap64 (((d + 1 : Nat) : Int) - 1)) l a3 s3) (x, y, a', s') ∧ Bd 12 100 x ∧ Bd 12 100 y ∧ a3 ≤ a' ∧ a' ≤ a3 + 10 + 30 * (d : Int) := fun hp a3 s3 g1 g2 => by
     rw [w64 (x := ((d + 1 : Nat) : Int) - 1) (by omega) (by omega), show ((d + 1 : Nat) : Int) - 1 = (d : Int) by omega, w64 (x := rd acc i - 1) (by omega) (by omega)]
     have h1 : Bd 12 (80 - ((d + 1 : Nat) : Int)) (acc.set i.toNat (rd acc i - 1)) := hacc.set _ (by omega) (by omega)
     have c1 := h1.high _ (rd_mem (l := acc.set i.toNat (rd acc i - 1)) r0 (by rw [List.length_set]; exact hj))
     have c2 := h1.low _ (rd_mem (l := acc.set i.toNat (rd acc i - 1)) r0 (by rw [List.length_set]; exact hj))
     rw [w64 (x := rd (acc.set i.toNat (rd acc i - 1)) j + 1) (by omega) (by omega)]
     exact ih _ a3 s3 (by omega) (by omega) (by omega) ((h1.le (n' := 12) (m' := 80 - (d : Int)) (by omega) (by omega)).set _ (by omega) (by omega))
    have body : ∃ x y a' s', Ev (fun k => spec_l1Cur_fitting.j1 k b acc ((d + 1 : Nat) : Int) true l a s) (x, y, a', s') ∧ Bd 12 100 x ∧ Bd 12 100 y ∧ a ≤ a' ∧ a' ≤ a + 20 + 30 * (d : Int) := by
     by_cases t1 : rd acc i > 0
     · by_cases t2 : rd acc i > rd acc j
       · obtain ⟨x, y, a', s', h, q1, q2, q3, q4⟩ := move t1 a2 s2 (by omega) (by omega)
         refine ⟨x, y, a', s', Ev.succ ?_, q1, q2, by omega, by omega⟩
         simp only [spec_l1Cur_fitting.j1, if_true, e1, e2, Option.bind_some, if_pos p0, if_pos hi, if_pos t1, if_pos r0, if_pos hj, if_pos t2]
         exact h
       · obtain ⟨t, a3, s3, e3, f1, f2⟩ := one_ev l hl a2 s2 4 (by omega) (by omega)
         cases t with
         | true =>
          obtain ⟨x, y, a', s', h, q1, q2, q3, q4⟩ := move t1 a3 s3 (by omega) (by omega)
          refine ⟨x, y, a', s', Ev.succ ?_, q1, q2, by omega, by omega⟩
          simp only [spec_l1Cur_fitting.j1, if_true, e1, e2, e3, Option.bind_some, if_pos p0, if_pos hi, if_pos t1, if_pos r0, if_pos hj, if_neg t2]
          exact h
         | false =>
          obtain ⟨x, y, a', s', h, q1, q2, q3, q4⟩ := keep a3 s3 (by omega) (by omega)
          refine ⟨x, y, a', s', Ev.succ ?_, q1, q2, by omega, by omega⟩
          simp only [spec_l1Cur_fitting.j1, if_true, e1, e2, e3, Option.bind_some, if_pos p0, if_pos hi, if_pos t1, if_pos r0, if_pos hj, if_neg t2, Bool.false_eq_true, if_false]
          exact h
     · obtain ⟨x, y, a', s', h, q1, q2, q3, q4⟩ := keep a2 s2 (by omega) (by omega)
       refine ⟨x, y, a', s', Ev.succ ?_, q1, q2, by omega, by omega⟩
       simp only [spec_l1Cur_fitting.j1, if_true, e1, e2, Option.bind_some, if_pos p0, if_pos hi, if_neg t1]
       exact h
    obtain ⟨x, y, a', s', h, q1, q2, q3, q4⟩ := body
    refine ⟨x, y, a', s', Ev.succ ?_, q1, q2, by omega, by omega⟩
    simp only [spec_l1Cur_fitting.l0, if_pos (show ((d + 1 : Nat) : Int) > 0 by omega), decide_eq_true c]
    exact h
  · obtain ⟨x, y, a', s', e, q1, q2, q3, q4⟩ := fit_end l hl b acc ((d + 1 : Nat) : Int) hb hbig a s h0 (by omega)
    refine ⟨x, y, a', s', Ev.succ ?_, q1, q2, q3, by omega⟩
    simp only [spec_l1Cur_fitting.l0, if_pos (show ((d + 1 : Nat) : Int) > 0 by omega), decide_eq_false c]
    exact e
theorem fitting_ev (l : List Int) (hl : Bytes l) (m : Int) (hm : 0 ≤ m) (hm2 : m ≤ 61) (a s : Int) (h0 : 0 ≤ a) (h1 : a ≤ 500000000) : ∃ x y a' s', Ev (fun k => spec_l1Cur_fitting.f k l a s m) (x, y, a', s') ∧ Bd 12 100 x ∧ Bd 12 100 y ∧ a ≤ a' ∧ a' ≤ a + 1000 := by
 obtain ⟨b, a1, s1, e1, hb, b1, b2⟩ := anyList_ev l hl m hm (by omega) a s h0 (by omega)
 obtain ⟨t, a2, s2, e2, c1, c2⟩ := one_ev l hl a1 s1 5 (by omega) (by omega)
 have hb' : Bd 12 100 b := hb.le (by omega) (by omega)
 cases t with
 | true =>
  obtain ⟨q, a3, s3, e3, hq, d1, d2⟩ := anyList_ev l hl m hm (by omega) a2 s2 (by omega) (by omega)
  refine ⟨q, b, a3, s3, ?_, hq.le (by omega) (by omega), hb', by omega, by omega⟩
  unfold spec_l1Cur_fitting.f
  refine Ev.bind e1 ?_
  simp only [e2, Option.bind_some, if_true]
  exact Ev.bind e3 (Ev.now _)
 | false =>
  obtain ⟨n, a3, s3, e3, n0, n1, d1, d2⟩ := pick_ev l hl a2 s2 12 (by omega) (by omega)
  obtain ⟨d, hd⟩ := Int.eq_ofNat_of_zero_le n0
  have hd' : n = (d : Int) := hd
  have hlen := hb.len
  obtain ⟨x, y, a', s', h, q1, q2, q3, q4⟩ := fit_l l hl b hb' d b a3 s3 (by omega) (by omega) (by omega) (hb.le (by omega) (by omega))
  refine ⟨x, y, a', s', ?_, q1, q2, by omega, by omega⟩
  unfold spec_l1Cur_fitting.f
  refine Ev.bind e1 ?_
  simp only [e2, Option.bind_some, Bool.false_eq_true, if_false, l1Own_eq b (by omega), e3]
  rw [hd']
  exact h
theorem drawMeet_ev (l : List Int) (hl : Bytes l) : ∃ x y, Ev (fun k => spec_DrawMeetOf.f k l) (x, y) ∧ Bd 12 100 x ∧ Bd 12 100 y := by
 obtain ⟨x, y, a', s', e, h1, h2, _, _⟩ := fitting_ev l hl 9 (by omega) (by omega) 0 0 (by omega) (by omega)
 refine ⟨x, y, ?_, h1, h2⟩
 unfold spec_DrawMeetOf.f
 exact Ev.bind e (Ev.now _)
end Go.Proofs.Ytnlimjejllakoaa.A

-- made by a program of this repo (wip/pp.py) through the kit's printer
namespace Go.Proofs.Ytnlimjejllakoaa.A
open Go.RowKit Go.Proofs.YtnlimjejllakoaaW.PrintWords Go.Proofs.YtnlimjejllakoaaW.PrintLast Go.Proofs.YtnlimjejllakoaaW.PrintMore
attribute [local go_sem] max2_int min2_int max_two min_two max_three min_three max_four min_four
set_option linter.unusedVariables false
set_option linter.unusedSimpArgs false

end Go.Proofs.Ytnlimjejllakoaa.A

-- made by a program of this repo (wip/pp.py) through the kit's printer
namespace Go.Proofs.Ytnlimjejllakoaa.A
open Go.RowKit Go.Proofs.YtnlimjejllakoaaW.PrintWords Go.Proofs.YtnlimjejllakoaaW.PrintLast Go.Proofs.YtnlimjejllakoaaW.PrintMore
attribute [local go_sem] max2_int min2_int max_two min_two max_three min_three max_four min_four
set_option linter.unusedVariables false
set_option linter.unusedSimpArgs false

end Go.Proofs.Ytnlimjejllakoaa.A

-- made by a program of this repo (wip/pp.py) through the kit's printer
namespace Go.Proofs.Ytnlimjejllakoaa.A
open Go.RowKit Go.Proofs.YtnlimjejllakoaaW.PrintWords Go.Proofs.YtnlimjejllakoaaW.PrintLast Go.Proofs.YtnlimjejllakoaaW.PrintMore
attribute [local go_sem] max2_int min2_int max_two min_two max_three min_three max_four min_four
set_option linter.unusedVariables false
set_option linter.unusedSimpArgs false

end Go.Proofs.Ytnlimjejllakoaa.A

-- made by a program of this repo (wip/pp.py) through the kit's printer
namespace Go.Proofs.Ytnlimjejllakoaa.A
open Go.RowKit Go.Proofs.YtnlimjejllakoaaW.PrintWords Go.Proofs.YtnlimjejllakoaaW.PrintLast Go.Proofs.YtnlimjejllakoaaW.PrintMore
attribute [local go_sem] max2_int min2_int max_two min_two max_three min_three max_four min_four
set_option linter.unusedVariables false
set_option linter.unusedSimpArgs false

end Go.Proofs.Ytnlimjejllakoaa.A

-- made by a program of this repo (wip/pp.py) through the kit's printer
namespace Go.Proofs.Ytnlimjejllakoaa.A
open Go.RowKit Go.Proofs.YtnlimjejllakoaaW.PrintWords Go.Proofs.YtnlimjejllakoaaW.PrintLast Go.Proofs.YtnlimjejllakoaaW.PrintMore
attribute [local go_sem] max2_int min2_int max_two min_two max_three min_three max_four min_four
set_option linter.unusedVariables false
set_option linter.unusedSimpArgs false

end Go.Proofs.Ytnlimjejllakoaa.A

-- made by a program of this repo (wip/pp.py) through the kit's printer
namespace Go.Proofs.Ytnlimjejllakoaa.A
open Go.RowKit Go.Proofs.YtnlimjejllakoaaW.PrintWords Go.Proofs.YtnlimjejllakoaaW.PrintLast Go.Proofs.YtnlimjejllakoaaW.PrintMore
attribute [local go_sem] max2_int min2_int max_two min_two max_three min_three max_four min_four
set_option linter.unusedVariables false
set_option linter.unusedSimpArgs false

end Go.Proofs.Ytnlimjejllakoaa.A

namespace Go.Proofs.Ytnlimjejllakoaa.A
open Go.RowKit Go.Proofs.YtnlimjejllakoaaW.PrintWords Go.Proofs.YtnlimjejllakoaaW.PrintLast Go.Proofs.YtnlimjejllakoaaW.PrintMore
set_option linter.unusedVariables false
set_option linter.unusedSimpArgs false
def betB (a b : List Int) : Bool := if goodL a = true then (if goodL b = true then majB a b else false) else false
theorem l1Most_eq (a b : Int) : spec_l1Most.f a b = some (max a b) := by
 unfold spec_l1Most.f
 split <;> (congr 1; omega)
end Go.Proofs.Ytnlimjejllakoaa.A

namespace Go.Proofs.Ytnlimjejllakoaa.A
open Go.RowKit Go.Proofs.YtnlimjejllakoaaW.PrintWords Go.Proofs.YtnlimjejllakoaaW.PrintLast Go.Proofs.YtnlimjejllakoaaW.PrintMore
set_option linter.unusedVariables false
set_option linter.unusedSimpArgs false
theorem drawConj_ev (l : List Int) (hl : Bytes l) : ∃ x n, Ev (fun k => spec_DrawConjugateOf.f k l) (x, n) ∧ Bd 12 100 x := by
 obtain ⟨x, a1, s1, e1, p0, p, p1, p2⟩ := pick_ev l hl 0 0 8 (by omega) (by omega)
 obtain ⟨t, a2, s2, e2, c1, c2⟩ := one_ev l hl a1 s1 8 (by omega) (by omega)
 cases t with
 | true =>
  obtain ⟨u, a3, s3, e3, hu, d1, d2⟩ := among_ev l hl a2 s2 [-1, 0, 9] (by simp) (by omega) (by omega)
  have hu' : -1 ≤ u ∧ u ≤ 9 := by
   simp at hu
   omega
  obtain ⟨r, a4, s4, e4, hr, _, _⟩ := anyList_ev l hl (max 1 u) (by omega) (by omega) a3 s3 (by omega) (by omega)
  refine ⟨r, u, ?_, hr.le (by omega) (by omega)⟩
  unfold spec_DrawConjugateOf.f
  simp only [e1, e2, Option.bind_some, if_true, e3, l1Most_eq]
  exact Ev.bind e4 (Ev.now _)
 | false =>
  obtain ⟨r, a4, s4, e4, hr, _, _⟩ := anyList_ev l hl (max 1 (1 + x)) (by omega) (by omega) a2 s2 (by omega) (by omega)
  refine ⟨r, 1 + x, ?_, hr.le (by omega) (by omega)⟩
  unfold spec_DrawConjugateOf.f
  simp only [e1, e2, Option.bind_some, Bool.false_eq_true, if_false, l1Most_eq, w64 (x := 1 + x) (by omega) (by omega)]
  exact Ev.bind e4 (Ev.now _)
end Go.Proofs.Ytnlimjejllakoaa.A

-- made by a program of this repo (wip/pp.py) through the kit's printer
namespace Go.Proofs.Ytnlimjejllakoaa.A
open Go.RowKit Go.Proofs.YtnlimjejllakoaaW.PrintWords Go.Proofs.YtnlimjejllakoaaW.PrintLast Go.Proofs.YtnlimjejllakoaaW.PrintMore
attribute [local go_sem] max2_int min2_int max_two min_two max_three min_three max_four min_four
set_option linter.unusedVariables false
set_option linter.unusedSimpArgs false

end Go.Proofs.Ytnlimjejllakoaa.A

-- made by a program of this repo (wip/pp.py) through the kit's printer
namespace Go.Proofs.Ytnlimjejllakoaa.A
open Go.RowKit Go.Proofs.YtnlimjejllakoaaW.PrintWords Go.Proofs.YtnlimjejllakoaaW.PrintLast Go.Proofs.YtnlimjejllakoaaW.PrintMore
attribute [local go_sem] max2_int min2_int max_two min_two max_three min_three max_four min_four
set_option linter.unusedVariables false
set_option linter.unusedSimpArgs false

end Go.Proofs.Ytnlimjejllakoaa.A

-- made by a program of this repo (wip/pp.py) through the kit's printer
namespace Go.Proofs.Ytnlimjejllakoaa.A
open Go.RowKit Go.Proofs.YtnlimjejllakoaaW.PrintWords Go.Proofs.YtnlimjejllakoaaW.PrintLast Go.Proofs.YtnlimjejllakoaaW.PrintMore
attribute [local go_sem] max2_int min2_int max_two min_two max_three min_three max_four min_four
set_option linter.unusedVariables false
set_option linter.unusedSimpArgs false

end Go.Proofs.Ytnlimjejllakoaa.A

-- made by a program of this repo (wip/pp.py) through the kit's printer
namespace Go.Proofs.Ytnlimjejllakoaa.A
open Go.RowKit Go.Proofs.YtnlimjejllakoaaW.PrintWords Go.Proofs.YtnlimjejllakoaaW.PrintLast Go.Proofs.YtnlimjejllakoaaW.PrintMore
attribute [local go_sem] max2_int min2_int max_two min_two max_three min_three max_four min_four
set_option linter.unusedVariables false
set_option linter.unusedSimpArgs false

end Go.Proofs.Ytnlimjejllakoaa.A

namespace Go.Proofs.Ytnlimjejllakoaa.A
open Go.RowKit Go.Proofs.YtnlimjejllakoaaW.PrintWords Go.Proofs.YtnlimjejllakoaaW.PrintLast Go.Proofs.YtnlimjejllakoaaW.PrintMore
set_option linter.unusedVariables false
set_option linter.unusedSimpArgs false
def rankingR (a : List Int) : List Int × Bool := if goodL a = true then (descL a, true) else ([], false)
theorem implRankingOf_ev (a : List Int) (h : a.length ≤ 1048576) : Ev (fun k => impl_RankingOf.f k a) (rankingR a) := by
 unfold impl_RankingOf.f rankingR
 refine Ev.bind (implIsList_ev a (by omega)) ?_
 by_cases hg : goodL a = true
 · simp only [hg, if_true, ranking_eq (good_sm hg), Option.bind_some]
   exact Ev.now _
 · simp only [if_neg hg]
   exact Ev.now _
def majR (a b : List Int) : Bool × Bool := if goodL a = true then (if goodL b = true then (majB a b, true) else (false, false)) else (false, false)
theorem implIsMajorized_ev (a b : List Int) (ha : a.length ≤ 1048576) (hb : b.length ≤ 1048576) : Ev (fun k => impl_IsMajorized.f k a b) (majR a b) := by
 unfold impl_IsMajorized.f majR
 refine Ev.bind (areLists_ev a b ha hb) ?_
 by_cases ga : goodL a = true
 · by_cases gb : goodL b = true
   · simp only [ga, gb, if_true]
     exact Ev.bind (isMajorized_ev a b (good_sm ga) (good_sm gb)) (Ev.now _)
   · simp only [ga, if_true, if_neg gb]
     exact Ev.now _
 · simp only [if_neg ga, Bool.false_eq_true, if_false]
   exact Ev.now _
end Go.Proofs.Ytnlimjejllakoaa.A

-- made by a program of this repo (wip/pp.py) through the kit's printer
namespace Go.Proofs.Ytnlimjejllakoaa.A
open Go.RowKit Go.Proofs.YtnlimjejllakoaaW.PrintWords Go.Proofs.YtnlimjejllakoaaW.PrintLast Go.Proofs.YtnlimjejllakoaaW.PrintMore
attribute [local go_sem] max2_int min2_int max_two min_two max_three min_three max_four min_four
set_option linter.unusedVariables false
set_option linter.unusedSimpArgs false

end Go.Proofs.Ytnlimjejllakoaa.A

-- made by a program of this repo (wip/pp.py) through the kit's printer
namespace Go.Proofs.Ytnlimjejllakoaa.A
open Go.RowKit Go.Proofs.YtnlimjejllakoaaW.PrintWords Go.Proofs.YtnlimjejllakoaaW.PrintLast Go.Proofs.YtnlimjejllakoaaW.PrintMore
attribute [local go_sem] max2_int min2_int max_two min_two max_three min_three max_four min_four
set_option linter.unusedVariables false
set_option linter.unusedSimpArgs false

end Go.Proofs.Ytnlimjejllakoaa.A

-- made by a program of this repo (wip/pp.py) through the kit's printer
namespace Go.Proofs.Ytnlimjejllakoaa.A
open Go.RowKit Go.Proofs.YtnlimjejllakoaaW.PrintWords Go.Proofs.YtnlimjejllakoaaW.PrintLast Go.Proofs.YtnlimjejllakoaaW.PrintMore
attribute [local go_sem] max2_int min2_int max_two min_two max_three min_three max_four min_four
set_option linter.unusedVariables false
set_option linter.unusedSimpArgs false

end Go.Proofs.Ytnlimjejllakoaa.A

namespace Go.Proofs.Ytnlimjejllakoaa.A
open Go.RowKit Go.Proofs.YtnlimjejllakoaaW.PrintWords Go.Proofs.YtnlimjejllakoaaW.PrintLast Go.Proofs.YtnlimjejllakoaaW.PrintMore
set_option linter.unusedVariables false
set_option linter.unusedSimpArgs false
end Go.Proofs.Ytnlimjejllakoaa.A

namespace Go.Proofs.Ytnlimjejllakoaa.A
open Go.RowKit Go.Proofs.YtnlimjejllakoaaW.PrintWords Go.Proofs.YtnlimjejllakoaaW.PrintLast Go.Proofs.YtnlimjejllakoaaW.PrintMore
set_option linter.unusedVariables false
set_option linter.unusedSimpArgs false
theorem conj_el (a : List Int) (n : Int) (h0 : 0 ≤ n) (hl : a.length ≤ 1000000) : ∀ x ∈ conjL a n, 0 ≤ x ∧ x ≤ a.length := fun x hx => by
 rw [conjL_eq a n h0 hl] at hx
 unfold mapR at hx
 obtain ⟨j, _, rfl⟩ := List.mem_map.1 hx
 have := gtN_le a j
 omega
end Go.Proofs.Ytnlimjejllakoaa.A

-- made by a program of this repo (wip/pp.py) through the kit's printer
namespace Go.Proofs.Ytnlimjejllakoaa.A
open Go.RowKit Go.Proofs.YtnlimjejllakoaaW.PrintWords Go.Proofs.YtnlimjejllakoaaW.PrintLast Go.Proofs.YtnlimjejllakoaaW.PrintMore
attribute [local go_sem] max2_int min2_int max_two min_two max_three min_three max_four min_four
set_option linter.unusedVariables false
set_option linter.unusedSimpArgs false

end Go.Proofs.Ytnlimjejllakoaa.A

namespace Go.Proofs.Ytnlimjejllakoaa.A
open Go.RowKit Go.Proofs.YtnlimjejllakoaaW.PrintWords Go.Proofs.YtnlimjejllakoaaW.PrintLast Go.Proofs.YtnlimjejllakoaaW.PrintMore
set_option linter.unusedVariables false
set_option linter.unusedSimpArgs false
/-! the words that the laws share -/
theorem Ev.ite' {α : Type} {c : Prop} [Decidable c] {g f : Nat → Option α} {r : α} (h : c → Ev g r) (h' : ¬ c → Ev f r) : Ev (fun k => if c then g k else f k) r := by
 by_cases hc : c
 · simp only [hc, if_true]
   exact h hc
 · simp only [hc, if_false]
   exact h' hc
theorem big_eq (a b : List Int) (ha : a.length ≤ 140737488355328) : laws_big.f a b = some (decide ((a.length : Int) > 1048576 ∨ (b.length : Int) > 1048576 - (a.length : Int))) := by
 unfold laws_big.f
 rw [w64 (x := 1048576 - (a.length : Int)) (by omega) (by omega)]
 by_cases h : (a.length : Int) > 1048576
 · simp [h]
 · simp only [if_neg h]
   congr 1
   by_cases h2 : (b.length : Int) > 1048576 - (a.length : Int)
   · rw [decide_eq_true h2, decide_eq_true (.inr h2)]
   · rw [decide_eq_false h2, decide_eq_false (by omega)]
theorem bytes_of {l : List Int} (h : l.length ≤ 1048576) (hx : ∀ x ∈ l, (Lit.int .u8 x).wf = true) : Bytes l := by
 refine ⟨h, fun x hm => ?_⟩
 have := hx x hm
 simp only [Lit.wf, Bool.and_eq_true, decide_eq_true_eq] at this
 exact ⟨this.1, this.2⟩
theorem pSame_l (xs ys : List Int) (hx : xs.length ≤ 9223372036854775807) (hl : xs.length = ys.length) : ∀ (n i : Nat), i + n = xs.length → Ev (fun k => laws_pSame.l0 k xs ys (xs.length : Int) (i : Int)) (decide (xs.drop i = ys.drop i))
 | 0, i, h => by
  refine Ev.succ ?_
  simp only [laws_pSame.l0, if_neg (show ¬ (i : Int) < (xs.length : Int) by omega)]
  rw [List.drop_eq_nil_of_le (by omega), List.drop_eq_nil_of_le (by omega), decide_eq_true rfl]
  exact Ev.now _
 | n + 1, i, h => by
  have hi : i < xs.length := by omega
  have hj : i < ys.length := by omega
  refine Ev.succ ?_
  simp only [laws_pSame.l0, if_pos (show (i : Int) < (xs.length : Int) by omega), if_pos (show (0 : Int) ≤ (i : Int) by omega), if_pos (show (i : Int) < (ys.length : Int) by omega), rdn hi, rdn hj, wsucc hi hx]
  rw [List.drop_eq_getElem_cons hi, List.drop_eq_getElem_cons hj]
  by_cases c : xs[i] = ys[i]
  · simp only [if_pos c, c, List.cons.injEq, true_and]
    exact pSame_l xs ys hx hl n (i + 1) (by omega)
  · simp only [if_neg c, List.cons.injEq, c, false_and, decide_false]
    exact Ev.now _
theorem pSame_ev (xs ys : List Int) (hx : xs.length ≤ 9223372036854775807) : Ev (fun k => laws_pSame.f k xs ys) (decide (xs = ys)) := by
 unfold laws_pSame.f
 by_cases h : (xs.length : Int) = (ys.length : Int)
 · simp only [if_pos h]
   exact pSame_l xs ys hx (by omega) xs.length 0 (by omega)
 · simp only [if_neg h]
   rw [decide_eq_false (fun e => h (by rw [e]))]
   exact Ev.now _
theorem pSame_self (xs : List Int) (hx : xs.length ≤ 9223372036854775807) : Ev (fun k => laws_pSame.f k xs xs) true := by
 have h := pSame_ev xs xs hx
 rw [decide_eq_true rfl] at h
 exact h
theorem pSum_ev (l : List Int) (n m : Int) (h : Bd n m l) (hn : n ≤ 1000) (hm : m ≤ 100000) (hm0 : 0 ≤ m) : Ev (fun k => laws_pSum.f k l) l.sum := by
 unfold laws_pSum.f
 have hl := h.len
 have h := ev_fold (xs := l) (g := fun k s i => laws_pSum.l0 k s l (l.length : Int) i) (fun s x => s + x) (fun s i => -(i : Int) ≤ s ∧ s ≤ 100000 * (i : Int)) id
  (fun s _ => Ev.succ (by simp only [laws_pSum.l0, if_neg (Int.lt_irrefl _)]; exact Ev.now _))
  (fun i hi s r hs _ hr => Ev.succ (by
   have h1 := h.low _ (List.getElem_mem hi)
   have h2 := h.high _ (List.getElem_mem hi)
   simp only [laws_pSum.l0, if_pos (show (i : Int) < (l.length : Int) by omega), if_pos (show (0 : Int) ≤ (i : Int) by omega), rdn hi, wsucc hi (by omega), w64 (x := s + l[i]) (by omega) (by omega)]
   exact hr))
  (fun i hi s hs => by
   have h1 := h.low _ (List.getElem_mem hi)
   have h2 := h.high _ (List.getElem_mem hi)
   omega) l.length 0 0 (by omega) (by omega)
 rw [List.drop_zero, foldl_add, Int.zero_add] at h
 exact h
theorem good_Bd {l : List Int} (h : goodL l = true) : Bd 8 60 l := by
 have g := (goodL_iff l).1 h
 exact ⟨by omega, fun x hx => by have := g.2.2 x hx; omega, fun x hx => (g.2.2 x hx).2⟩
theorem pBelow_ev (a b : List Int) (ha : a.length ≤ 1048576) (hb : b.length ≤ 1048576) : Ev (fun k => laws_pBelow.f k a b) (betB a b) := by
 unfold laws_pBelow.f betB
 refine Ev.bind (implIsMajorized_ev a b ha hb) ?_
 unfold majR
 by_cases ga : goodL a = true
 · by_cases gb : goodL b = true
   · simp only [ga, gb, if_true]
     exact Ev.now _
   · simp only [ga, if_true, if_neg gb, Bool.false_eq_true, if_false]
     exact Ev.now _
 · simp only [if_neg ga, Bool.false_eq_true, if_false]
   exact Ev.now _
theorem pBelow_good {a b : List Int} (ga : goodL a = true) (gb : goodL b = true) : Ev (fun k => laws_pBelow.f k a b) (majB a b) := by
 have g1 := (goodL_iff a).1 ga
 have g2 := (goodL_iff b).1 gb
 have h := pBelow_ev a b (by omega) (by omega)
 unfold betB at h
 rw [if_pos ga, if_pos gb] at h
 exact h
theorem big_cut (l0 l1 : List Int) (g0 : l0.length * 1 ≤ 140737488351232) (x0 : ∀ x ∈ l0, (Lit.int .u8 x).wf = true) (x1 : ∀ x ∈ l1, (Lit.int .u8 x).wf = true) : laws_big.f l0 l1 = some true ∨ laws_big.f l0 l1 = some false ∧ Bytes l0 ∧ Bytes l1 := by
 rw [big_eq l0 l1 (by omega)]
 by_cases hb : (l0.length : Int) > 1048576 ∨ (l1.length : Int) > 1048576 - (l0.length : Int)
 · rw [decide_eq_true hb]
   exact .inl rfl
 · rw [decide_eq_false hb]
   exact .inr ⟨rfl, bytes_of (by omega) x0, bytes_of (by omega) x1⟩
end Go.Proofs.Ytnlimjejllakoaa.A

/- The law FnConjugatesTurn holds of the printed functions, for every argument: numbers and lists alone. -/
namespace Go.Proofs.Ytnlimjejllakoaa.Pure
open Go.RowKit Go.Proofs.Ytnlimjejllakoaa.A Go.Proofs.YtnlimjejllakoaaW.PrintWords Go.Proofs.YtnlimjejllakoaaW.PrintLast
set_option linter.unusedVariables false
set_option linter.unusedSimpArgs false
theorem in_all {n : Int} {l : List Int} (h : inR 0 n l = true) : ∀ x ∈ l, 0 ≤ x ∧ x ≤ n := fun x hx => by
 unfold inR at h
 rw [List.all_eq_true] at h
 simpa using h x hx
theorem conj_good (a : List Int) (n : Int) (ga : goodL a = true) (h1 : 1 ≤ n) (h2 : n ≤ 8) : goodL (conjL a n) = true := by
 have g := (goodL_iff a).1 ga
 refine (goodL_iff _).2 ⟨by rw [conjL_length]; omega, by rw [conjL_length]; omega, fun x hx => ?_⟩
 have := conj_el a n (by omega) (by omega) x hx
 omega
theorem conj_j2 (x y u v : List Int) (gx : goodL x = true) (gy : goodL y = true) (gu : goodL u = true) (gv : goodL v = true) (h : majB x y = majB v u) : Ev (fun k => laws_FnConjugatesTurn.j2 k x y u v false) true := by
 refine Ev.succ ?_
 simp only [laws_FnConjugatesTurn.j2, Bool.false_eq_true, if_false]
 refine Ev.bind (pBelow_good gx gy) (Ev.bind (pBelow_good gv gu) ?_)
 rw [h, beq_self_eq_true]
 exact Ev.now _
theorem conj_j2' (x y u v : List Int) : Ev (fun k => laws_FnConjugatesTurn.j2 k x y u v true) true := by
 refine Ev.succ ?_
 simp only [laws_FnConjugatesTurn.j2, if_true]
 exact Ev.now _
theorem conj_j1 (l1 : List Int) (h1 : Bytes l1) : Ev (fun k => laws_FnConjugatesTurn.j1 k l1) true := by
 refine Ev.succ ?_
 simp only [laws_FnConjugatesTurn.j1]
 obtain ⟨x, y, e, hx, hy⟩ := drawMeet_ev l1 h1
 have l1 := hx.len
 have l2 := hy.len
 refine Ev.bind e (Ev.bind (implConjugateOf_ev x 8 (by omega)) (Ev.bind (implConjugateOf_ev y 8 (by omega)) ?_))
 have key : ∀ (a : List Int), (conjR a 8).2 = true → goodL a = true ∧ inR 0 8 a = true ∧ (conjR a 8).1 = conjL a 8 := fun a h => by
  unfold conjR at h ⊢
  by_cases c : goodL a = true
  · rw [if_pos c, if_pos (by omega)] at h ⊢
    by_cases c2 : inR 0 8 a = true
    · rw [if_pos c2]
      exact ⟨c, c2, rfl⟩
    · rw [if_neg c2] at h
      cases h
  · rw [if_neg c] at h
    cases h
 refine Ev.ite' (fun c1 => ?_) (fun _ => conj_j2' _ _ _ _)
 refine Ev.ite' (fun c2 => ?_) (fun _ => conj_j2' _ _ _ _)
 obtain ⟨gx, ix, ex⟩ := key x c1
 obtain ⟨gy, iy, ey⟩ := key y c2
 rw [ex, ey]
 by_cases hl : (x.length : Int) = (y.length : Int)
 · rw [show ((x.length : Int) != (y.length : Int)) = false from bne_eq_false_iff_eq.mpr hl]
   refine conj_j2 _ _ _ _ gx gy (conj_good x 8 gx (by omega) (by omega)) (conj_good y 8 gy (by omega) (by omega)) ?_
   rw [Bool.eq_iff_iff]
   exact conj_turn x y 8 (by omega) (by omega) (by omega) (in_all ix) (in_all iy)
 · rw [show ((x.length : Int) != (y.length : Int)) = true from bne_iff_ne.mpr hl]
   exact conj_j2' _ _ _ _
theorem FnConjugatesTurn : laws_FnConjugatesTurn.Pure := by
 intro l0 l1 _ g0 x0 _ g1 x1
 apply Ev.get
 unfold laws_FnConjugatesTurn.f
 rcases big_cut l0 l1 g0 x0 x1 with hb | ⟨hb, b0, b1⟩
 · simp only [hb, Option.bind_some, if_true]
   exact Ev.now _
 · simp only [hb, Option.bind_some, Bool.false_eq_true, if_false]
   obtain ⟨x, n, e, hx⟩ := drawConj_ev l0 b0
   have hl := hx.len
   have hr := conjR_len x n (by omega)
   refine Ev.bind e (Ev.bind (implConjugateOf_ev x n (by omega)) (Ev.bind (specConjugateOf_ev x n (by omega)) ?_))
   simp only [bne_self_eq_false, Bool.false_eq_true, if_false]
   refine Ev.bind (pSame_self _ (by omega)) ?_
   simp only [Bool.not_true]
   refine Ev.succ ?_
   simp only [laws_FnConjugatesTurn.j0, Bool.false_eq_true, if_false]
   refine Ev.ite' (fun c => ?_) (fun _ => conj_j1 l1 b1)
   unfold conjR at c ⊢
   by_cases gx : goodL x = true
   · by_cases hn : 1 ≤ n ∧ n ≤ 8
     · by_cases hi : inR 0 n x = true
       · rw [if_pos gx, if_pos hn, if_pos hi]
         have g := (goodL_iff x).1 gx
         have gc := conj_good x n gx hn.1 hn.2
         have gl := (goodL_iff _).1 gc
         have hi2 := in_all hi
         refine Ev.bind (implConjugateOf_ev (conjL x n) (x.length : Int) (by omega)) (Ev.bind (implRankingOf_ev x (by omega)) ?_)
         have ec : conjR (conjL x n) (x.length : Int) = (descL x, true) := by
          unfold conjR
          rw [if_pos gc, if_pos (by omega), conj_conj x n (by omega) (by omega) (by omega) hi2]
          rw [if_pos]
          unfold inR
          rw [List.all_eq_true]
          intro y hy
          have := conj_el x n (by omega) (by omega) y hy
          simpa using this
         rw [ec]
         unfold rankingR
         rw [if_pos gx]
         simp only [if_true]
         refine Ev.bind (pSame_self _ (by rw [descL_length]; omega)) ?_
         simp only [if_true]
         refine Ev.bind (pSum_ev _ 8 60 (good_Bd gc) (by omega) (by omega) (by omega)) (Ev.bind (pSum_ev x 8 60 (good_Bd gx) (by omega) (by omega) (by omega)) ?_)
         simp only [conj_sum x n (by omega) (by omega) hi2, if_true]
         exact conj_j1 l1 b1
       · rw [if_pos gx, if_pos hn, if_neg hi] at c
         cases c
     · rw [if_pos gx, if_neg hn] at c
       cases c
   · rw [if_neg gx] at c
     cases c
end Go.Proofs.Ytnlimjejllakoaa.Pure
