/- What the law FnExactTableFor reaches, part 5: Lean functions with the same answers as the Go functions, the proofs that the Go code comes to these answers, and lemmas about them; no condition beyond those that each theorem names. -/
import Derived.Test.YtmfpgimblifleaaCFnExactTableForw1
import Derived.WalkKit
import Derived.ProofKit
import Derived.OpenShut
import Derived.Deep.Matrix
import Derived.Lib.SmallJoins
import Derived.Test.YtmfpgimblifleaaCFnExactTableFor1
import Derived.Test.YtmfpgimblifleaaCFnExactTableFor2
import Derived.Test.YtmfpgimblifleaaCFnExactTableFor3
import Derived.Test.YtmfpgimblifleaaCFnExactTableFor4
namespace Go.Proofs.Ytmfpgimblifleaa.A
open Go.RowKit Go.Proofs.YtmfpgimblifleaaW.PrintWords Go.Proofs.YtmfpgimblifleaaW.PrintLast Go.Proofs.YtmfpgimblifleaaW.PrintMore
set_option linter.unusedVariables false
set_option linter.unusedSimpArgs false
/-! greatest common divisors -/
theorem gcd_step (a b : Nat) : Nat.gcd b (a % b) = Nat.gcd a b := by
 rw [Nat.gcd_comm a b, Nat.gcd_rec b a, Nat.gcd_comm]
theorem doGcd_ev : ∀ (b a : Nat), Ev (fun k => spec_doGcd.f k (a : Int) (b : Int)) ((Nat.gcd a b : Nat) : Int) := by
 intro b
 induction b using Nat.strongRecOn with
 | _ b ih =>
  intro a
  refine Ev.succ ?_
  by_cases c : b = 0
  · subst c
    simp only [spec_doGcd.f, if_pos (show ((0 : Nat) : Int) = 0 from rfl), Nat.gcd_zero_right]
    exact Ev.now _
  · simp only [spec_doGcd.f, if_neg (show ¬ (b : Int) = 0 by omega), ← Int.ofNat_tmod]
    have h := ih (a % b) (Nat.mod_lt a (by omega)) b
    rw [gcd_step] at h
    exact Ev.bind h (Ev.now _)
theorem divisor_ev : ∀ (b a : Nat), Ev (fun k => impl_divisor.f k (a : Int) (b : Int)) ((Nat.gcd a b : Nat) : Int) := by
 unfold impl_divisor.f
 intro b
 induction b using Nat.strongRecOn with
 | _ b ih =>
  intro a
  refine Ev.succ ?_
  by_cases c : b = 0
  · subst c
    simp only [impl_divisor.l0, if_pos (show ((0 : Nat) : Int) = 0 from rfl), Nat.gcd_zero_right]
    exact Ev.now _
  · simp only [impl_divisor.l0, if_neg (show ¬ (b : Int) = 0 by omega), ← Int.ofNat_tmod]
    have h := ih (a % b) (Nat.mod_lt a (by omega)) b
    rw [gcd_step] at h
    exact h
def gcdL (g : Nat) (l : List Int) : Nat := l.foldl (fun g x => Nat.gcd g x.toNat) g
theorem gcdL_perm {l1 l2 : List Int} (h : l1.Perm l2) (g : Nat) : gcdL g l1 = gcdL g l2 := by
 unfold gcdL
 induction h generalizing g with
 | nil => rfl
 | cons a _ ih => exact ih _
 | swap a b l =>
  simp only [List.foldl_cons]
  rw [Nat.gcd_assoc, Nat.gcd_comm b.toNat, ← Nat.gcd_assoc]
 | trans _ _ ih1 ih2 => exact (ih1 g).trans (ih2 g)
theorem gcdL_pos : ∀ (l : List Int) (g : Nat), (0 < g ∨ ∃ x ∈ l, 0 < x) → 0 < gcdL g l
 | [], g, h => by
  rcases h with h | ⟨x, hx, _⟩
  · exact h
  · simp at hx
 | a :: l, g, h => by
  unfold gcdL
  rw [List.foldl_cons]
  refine gcdL_pos l (Nat.gcd g a.toNat) ?_
  rcases h with h | ⟨x, hx, h0⟩
  · exact Or.inl (Nat.gcd_pos_of_pos_left _ h)
  · rcases List.mem_cons.1 hx with rfl | hx
    · exact Or.inl (Nat.gcd_pos_of_pos_right _ (by omega))
    · exact Or.inr ⟨x, hx, h0⟩
/-- impl: over all numbers, row by row -/
theorem div_l1 (G : Nat → List (List Int) → Int → Option (List (List Int))) (t : List (List Int)) (n : Int) (i : Nat) (hi : i ≤ 100) (x : List Int) (hx : x.length ≤ 100) (hb : ∀ y ∈ x, 0 ≤ y) {r : List (List Int) × Bool} : ∀ (m j g : Nat), j + m = x.length → Ev (fun k => impl_TableForB.l0 G k t ((gcdL g (x.drop j) : Nat) : Int) t n ((i : Int) + 1)) r → Ev (fun k => impl_TableForB.l1 G k t (g : Int) t n (i : Int) x (x.length : Int) (j : Int)) r
 | 0, j, g, h, hr => by
  refine Ev.succ ?_
  simp only [impl_TableForB.l1, if_neg (show ¬ (j : Int) < (x.length : Int) by omega), w64 (x := (i : Int) + 1) (by omega) (by omega)]
  rw [List.drop_eq_nil_of_le (by omega)] at hr
  exact hr
 | m + 1, j, g, h, hr => by
  have hj : j < x.length := by omega
  have hrd : rd x (j : Int) = x[j] := by
   unfold rd
   simp [List.getD_eq_getElem?_getD, List.getElem?_eq_getElem hj]
  have h0 := hb x[j] (List.getElem_mem hj)
  refine Ev.succ ?_
  simp only [impl_TableForB.l1, if_pos (show (j : Int) < (x.length : Int) by omega), if_pos (show (0 : Int) ≤ (j : Int) by omega), hrd, w64 (x := (j : Int) + 1) (by omega) (by omega)]
  have hd := divisor_ev x[j].toNat g
  rw [Int.toNat_of_nonneg h0] at hd
  refine Ev.bind hd ?_
  rw [List.drop_eq_getElem_cons hj] at hr
  exact div_l1 G t n i hi x hx hb m (j + 1) _ (by omega) hr
theorem div_l0 (G : Nat → List (List Int) → Int → Option (List (List Int))) (t : List (List Int)) (ht : t.length ≤ 100) (hx : ∀ x ∈ t, x.length ≤ 100 ∧ ∀ y ∈ x, 0 ≤ y) {r : List (List Int) × Bool} : ∀ (m i g : Nat), i + m = t.length → Ev (fun k => (G k t ((gcdL g (t.drop i).flatten : Nat) : Int)).bind fun u => (impl_checked.f u).bind fun b => some (b.1, b.2)) r → Ev (fun k => impl_TableForB.l0 G k t (g : Int) t (t.length : Int) (i : Int)) r
 | 0, i, g, h, hr => by
  refine Ev.succ ?_
  simp only [impl_TableForB.l0, if_neg (show ¬ (i : Int) < (t.length : Int) by omega)]
  rw [List.drop_eq_nil_of_le (by omega)] at hr
  exact hr
 | m + 1, i, g, h, hr => by
  have hi : i < t.length := by omega
  have hm := hx t[i] (List.getElem_mem hi)
  refine Ev.succ ?_
  simp only [impl_TableForB.l0, if_pos (show (i : Int) < (t.length : Int) by omega), if_pos (show (0 : Int) ≤ (i : Int) by omega), rd_L1n hi]
  refine div_l1 G t (t.length : Int) i (by omega) t[i] hm.1 hm.2 t[i].length 0 g (by omega) ?_
  rw [List.drop_zero]
  refine div_l0 G t ht hx m (i + 1) _ (by omega) ?_
  rw [List.drop_eq_getElem_cons hi, List.flatten_cons] at hr
  unfold gcdL at hr ⊢
  rw [List.foldl_append] at hr
  exact hr
end Go.Proofs.Ytmfpgimblifleaa.A

namespace Go.Proofs.Ytmfpgimblifleaa.A
open Go.RowKit Go.Proofs.YtmfpgimblifleaaW.PrintWords Go.Proofs.YtmfpgimblifleaaW.PrintLast Go.Proofs.YtmfpgimblifleaaW.PrintMore
set_option linter.unusedVariables false
set_option linter.unusedSimpArgs false
/-! impl.ranks and spec.doPlaces say the same place: finite facts at four numbers or fewer -/
open Go.Sort in
def insT (m : Nat) (lt : Fin (m + 1) → Fin (m + 1) → Bool) : Array (Fin (m + 1)) := (List.range m).foldl (fun d i => insInner lt 0 (i + 1) d) (Array.ofFn (fun i : Fin (m + 1) => i))
def setsT (n : Nat) (o : List Nat) : List Nat := (List.range o.length).foldl (fun x i => x.set (o.getD i 0) i) (List.replicate n 0)
def rnkT (m : Nat) (lt : Fin (m + 1) → Fin (m + 1) → Bool) : List Nat := setsT (m + 1) ((insT m lt).toList.map fun i => i.val)
def plT (m : Nat) (lt : Fin (m + 1) → Fin (m + 1) → Bool) : List Nat := (List.ofFn (fun i : Fin (m + 1) => i)).map fun i => (List.ofFn (fun k : Fin (m + 1) => k)).countP fun k => lt k i || (!lt k i && !lt i k && decide (k < i))
def ltW (n : Nat) (w : List Nat) (i j : Fin n) : Bool := decide (w.getD j.val 0 < w.getD i.val 0)
theorem rp1 : ∀ a : Fin 4, rnkT 0 (ltW 1 [a.val]) = plT 0 (ltW 1 [a.val]) := by decide +kernel
theorem rp2 : ∀ a b : Fin 4, rnkT 1 (ltW 2 [a.val, b.val]) = plT 1 (ltW 2 [a.val, b.val]) := by decide +kernel
theorem rp3 : ∀ a b c : Fin 4, rnkT 2 (ltW 3 [a.val, b.val, c.val]) = plT 2 (ltW 3 [a.val, b.val, c.val]) := by decide +kernel
theorem rp4 : ∀ a b c d : Fin 4, rnkT 3 (ltW 4 [a.val, b.val, c.val, d.val]) = plT 3 (ltW 4 [a.val, b.val, c.val, d.val]) := by decide +kernel
theorem insT_eq (m : Nat) (hm : m ≤ 3) (lt : Fin (m + 1) → Fin (m + 1) → Bool) : Go.Sort.insertionSort lt (Array.ofFn (fun i : Fin (m + 1) => i)) 0 (m + 1) = insT m lt := by
 unfold Go.Sort.insertionSort insT
 obtain rfl | rfl | rfl | rfl : m = 0 ∨ m = 1 ∨ m = 2 ∨ m = 3 := by omega
 · rw [insOuter_stop _ _ _ _ _ (by omega)]; rfl
 · rw [insOuter_go _ _ _ _ _ (by omega), insOuter_stop _ _ _ _ _ (by omega)]; rfl
 · rw [insOuter_go _ _ _ _ _ (by omega), insOuter_go _ _ _ _ _ (by omega), insOuter_stop _ _ _ _ _ (by omega)]; rfl
 · rw [insOuter_go _ _ _ _ _ (by omega), insOuter_go _ _ _ _ _ (by omega), insOuter_go _ _ _ _ _ (by omega), insOuter_stop _ _ _ _ _ (by omega)]; rfl
/-- a number's dense rank: how many are smaller -/
def denW (l : List Int) : List Nat := l.map fun x => l.countP fun y => decide (y < x)
theorem countP_le_of {l : List Int} {p q : Int → Bool} (h : ∀ x ∈ l, p x = true → q x = true) : l.countP p ≤ l.countP q := List.countP_mono_left h
theorem den_lt (l : List Int) {x y : Int} (hx : x ∈ l) (hy : y ∈ l) : (l.countP (fun z => decide (z < x)) < l.countP (fun z => decide (z < y))) ↔ x < y := by
 constructor
 · intro h
   by_cases c : x < y
   · exact c
   · exfalso
     have := countP_le_of (l := l) (p := fun z => decide (z < y)) (q := fun z => decide (z < x)) (fun z _ hz => by
      simp only [decide_eq_true_eq] at *
      omega)
     omega
 · intro h
   have h1 : l.countP (fun z => decide (z < y)) = l.countP (fun z => decide (z < x)) + l.countP (fun z => decide (x ≤ z ∧ z < y)) := by
    clear hx hy
    induction l with
    | nil => rfl
    | cons a l ih =>
     simp only [List.countP_cons, ih, decide_eq_true_eq]
     by_cases c1 : a < x
     · rw [if_pos (show a < y by omega), if_pos c1, if_neg (show ¬ (x ≤ a ∧ a < y) by omega)]
       omega
     · by_cases c2 : a < y
       · rw [if_pos c2, if_neg c1, if_pos (show x ≤ a ∧ a < y by omega)]
         omega
       · rw [if_neg c2, if_neg c1, if_neg (show ¬ (x ≤ a ∧ a < y) by omega)]
         omega
   have h2 : 0 < l.countP (fun z => decide (x ≤ z ∧ z < y)) := List.countP_pos_iff.2 ⟨x, hx, by simp [h]⟩
   omega
theorem den_bd (l : List Int) {x : Int} (hx : x ∈ l) : l.countP (fun z => decide (z < x)) < l.length := by
 have := List.countP_eq_length (p := fun z => decide (z < x)) (l := l)
 have h2 := List.countP_le_length (p := fun z => decide (z < x)) (l := l)
 by_cases c : l.countP (fun z => decide (z < x)) = l.length
 · have := this.1 c x hx
   simp at this
 · omega
theorem lt_den (l : List Int) (m : Nat) (hm : l.length = m + 1) : (fun i j : Fin (m + 1) => decide (rd l (j.val : Int) < rd l (i.val : Int))) = ltW (m + 1) (denW l) := by
 funext i j
 have gi : ∀ i : Fin (m + 1), (denW l).getD i.val 0 = l.countP (fun z => decide (z < rd l (i.val : Int))) ∧ rd l (i.val : Int) ∈ l := fun i => by
  have hi : i.val < l.length := by omega
  have hr : rd l (i.val : Int) = l[i.val] := by
   unfold rd
   simp [List.getD_eq_getElem?_getD, List.getElem?_eq_getElem hi]
  refine ⟨?_, by rw [hr]; exact List.getElem_mem hi⟩
  unfold denW
  rw [List.getD_eq_getElem?_getD, List.getElem?_map, List.getElem?_eq_getElem hi, hr]
  rfl
 unfold ltW
 rw [(gi i).1, (gi j).1]
 exact (decide_eq_decide).2 (den_lt l (gi j).2 (gi i).2).symm
theorem rnk_pl (l : List Int) (m : Nat) (hm : l.length = m + 1) (h3 : m ≤ 3) : rnkT m (fun i j : Fin (m + 1) => decide (rd l (j.val : Int) < rd l (i.val : Int))) = plT m (fun i j : Fin (m + 1) => decide (rd l (j.val : Int) < rd l (i.val : Int))) := by
 rw [lt_den l m hm]
 have hl : (denW l).length = m + 1 := by unfold denW; simpa using hm
 have hb : ∀ x ∈ denW l, x < 4 := fun x hx => by
  unfold denW at hx
  obtain ⟨y, hy, rfl⟩ := List.mem_map.1 hx
  have := den_bd l hy
  omega
 generalize denW l = w at *
 obtain rfl | rfl | rfl | rfl : m = 0 ∨ m = 1 ∨ m = 2 ∨ m = 3 := by omega
 · match w, hl with
   | [a], _ => exact rp1 ⟨a, hb a (by simp)⟩
 · match w, hl with
   | [a, b], _ => exact rp2 ⟨a, hb a (by simp)⟩ ⟨b, hb b (by simp)⟩
 · match w, hl with
   | [a, b, c], _ => exact rp3 ⟨a, hb a (by simp)⟩ ⟨b, hb b (by simp)⟩ ⟨c, hb c (by simp)⟩
 · match w, hl with
   | [a, b, c, d], _ => exact rp4 ⟨a, hb a (by simp)⟩ ⟨b, hb b (by simp)⟩ ⟨c, hb c (by simp)⟩ ⟨d, hb d (by simp)⟩
theorem ordA_eq (l : List Int) (m : Nat) (h3 : m ≤ 3) (hm : l.length = m + 1) (hb : ∀ x ∈ l, 0 ≤ x ∧ x ≤ 60) : ordA l m = insT m (fun i j : Fin (m + 1) => decide (rd l (j.val : Int) < rd l (i.val : Int))) := by
 rw [← insT_eq m h3]
 unfold ordA
 congr 1
 funext i j
 have gi : ∀ i : Fin (m + 1), 0 ≤ rd l (i.val : Int) ∧ rd l (i.val : Int) ≤ 60 := fun i => by
  have hi : i.val < l.length := by omega
  have hr : rd l (i.val : Int) = l[i.val] := by
   unfold rd
   simp [List.getD_eq_getElem?_getD, List.getElem?_eq_getElem hi]
  rw [hr]
  exact hb _ (List.getElem_mem hi)
 have h1 := gi i
 have h2 := gi j
 unfold ltOf cfR
 rw [w64 (by omega) (by omega)]
 exact decide_eq_decide.2 (by omega)
theorem pp1 : ∀ a : Fin 4, (plT 0 (ltW 1 [a.val])).Perm (List.range 1) := by decide +kernel
theorem pp2 : ∀ a b : Fin 4, (plT 1 (ltW 2 [a.val, b.val])).Perm (List.range 2) := by decide +kernel
theorem pp3 : ∀ a b c : Fin 4, (plT 2 (ltW 3 [a.val, b.val, c.val])).Perm (List.range 3) := by decide +kernel
theorem pp4 : ∀ a b c d : Fin 4, (plT 3 (ltW 4 [a.val, b.val, c.val, d.val])).Perm (List.range 4) := by decide +kernel
theorem plT_perm (l : List Int) (m : Nat) (hm : l.length = m + 1) (h3 : m ≤ 3) : (plT m (fun i j : Fin (m + 1) => decide (rd l (j.val : Int) < rd l (i.val : Int)))).Perm (List.range (m + 1)) := by
 rw [lt_den l m hm]
 have hl : (denW l).length = m + 1 := by unfold denW; simpa using hm
 have hb : ∀ x ∈ denW l, x < 4 := fun x hx => by
  unfold denW at hx
  obtain ⟨y, hy, rfl⟩ := List.mem_map.1 hx
  have := den_bd l hy
  omega
 generalize denW l = w at *
 obtain rfl | rfl | rfl | rfl : m = 0 ∨ m = 1 ∨ m = 2 ∨ m = 3 := by omega
 · match w, hl with
   | [a], _ => exact pp1 ⟨a, hb a (by simp)⟩
 · match w, hl with
   | [a, b], _ => exact pp2 ⟨a, hb a (by simp)⟩ ⟨b, hb b (by simp)⟩
 · match w, hl with
   | [a, b, c], _ => exact pp3 ⟨a, hb a (by simp)⟩ ⟨b, hb b (by simp)⟩ ⟨c, hb c (by simp)⟩
 · match w, hl with
   | [a, b, c, d], _ => exact pp4 ⟨a, hb a (by simp)⟩ ⟨b, hb b (by simp)⟩ ⟨c, hb c (by simp)⟩ ⟨d, hb d (by simp)⟩
end Go.Proofs.Ytmfpgimblifleaa.A

namespace Go.Proofs.Ytmfpgimblifleaa.A
open Go.RowKit Go.Proofs.YtmfpgimblifleaaW.PrintWords Go.Proofs.YtmfpgimblifleaaW.PrintLast Go.Proofs.YtmfpgimblifleaaW.PrintMore
set_option linter.unusedVariables false
set_option linter.unusedSimpArgs false
/-! impl.ranks -/
def plcL (l : List Int) : List Int := (plT (l.length - 1) (fun i j : Fin (l.length - 1 + 1) => decide (rd l (j.val : Int) < rd l (i.val : Int)))).map fun (x : Nat) => (x : Int)
theorem idxL_succ (i : Nat) : idxL i ++ [(i : Int)] = idxL (i + 1) := by
 unfold idxL
 rw [List.range_succ, List.map_append]
 rfl
theorem idxL_len (i : Nat) : (idxL i).length = i := by
 unfold idxL
 simp
theorem rnk_l0 (S : List Int → Option (List Int)) (z : List Int) (n : Nat) (hn : n ≤ 12) {r : List Int} (hr : Ev (fun k => (S (idxL n)).bind fun t => impl_ranks.l1 S k z t (t.length : Int) 0) r) : ∀ (m i : Nat), i + m = n → Ev (fun k => impl_ranks.l0 S k (idxL i) z (n : Int) (i : Int)) r
 | 0, i, h => by
  refine Ev.succ ?_
  obtain rfl : i = n := by omega
  simp only [impl_ranks.l0, if_neg (show ¬ (i : Int) < (i : Int) by omega)]
  exact hr
 | m + 1, i, h => by
  refine Ev.succ ?_
  simp only [impl_ranks.l0, if_pos (show (i : Int) < (n : Int) by omega), if_pos (show (idxL i).length < 17592186044416 by rw [idxL_len]; omega), w64 (x := (i : Int) + 1) (by omega) (by omega), idxL_succ]
  exact rnk_l0 S z n hn hr m (i + 1) (by omega)
theorem rnk_l1 (S : List Int → Option (List Int)) (t : List Int) (n : Nat) (hn : n ≤ 12) (ht : t.length = n) (hb : ∀ x ∈ t, 0 ≤ x ∧ x < (n : Int)) : ∀ (m i : Nat) (z : List Int), i + m = n → z.length = n → Ev (fun k => impl_ranks.l1 S k z t (n : Int) (i : Int)) ((List.range' i m).foldl (fun x (i : Nat) => x.set (rd t (i : Int)).toNat (i : Int)) z)
 | 0, i, z, h, hz => by
  refine Ev.succ ?_
  simp only [impl_ranks.l1, if_neg (show ¬ (i : Int) < (n : Int) by omega)]
  exact Ev.now _
 | m + 1, i, z, h, hz => by
  refine Ev.succ ?_
  have hi : i < t.length := by omega
  have hr : rd t (i : Int) = t[i] := by
   unfold rd
   simp [List.getD_eq_getElem?_getD, List.getElem?_eq_getElem hi]
  have hx := hb t[i] (List.getElem_mem hi)
  simp only [impl_ranks.l1, if_pos (show (i : Int) < (n : Int) by omega), if_pos (show (0 : Int) ≤ (i : Int) by omega), if_pos (show (i : Int) < (t.length : Int) by omega), if_pos (show 0 ≤ rd t (i : Int) by rw [hr]; omega), if_pos (show rd t (i : Int) < (z.length : Int) by rw [hr]; omega), w64 (x := (i : Int) + 1) (by omega) (by omega)]
  rw [List.range'_succ, List.foldl_cons]
  exact rnk_l1 S t n hn ht hb m (i + 1) _ (by omega) (by rw [List.length_set]; exact hz)
theorem foldl_set_map (f : Nat → Nat) : ∀ (is : List Nat) (x : List Nat), (is.foldl (fun x i => x.set (f i) i) x).map (fun (v : Nat) => (v : Int)) = is.foldl (fun y (i : Nat) => y.set (f i) (i : Int)) (x.map fun (v : Nat) => (v : Int))
 | [], x => rfl
 | i :: is, x => by
  rw [List.foldl_cons, List.foldl_cons, foldl_set_map f is, List.map_set]
theorem ranks_ev (l : List Int) (h1 : 1 ≤ l.length) (h4 : l.length ≤ 4) (hb : ∀ x ∈ l, 0 ≤ x ∧ x ≤ 60) : Ev (fun k => impl_ranks.f k l) (plcL l) := by
 unfold impl_ranks.f
 obtain ⟨m, hm⟩ : ∃ m, l.length = m + 1 := ⟨l.length - 1, by omega⟩
 have e1 : l.length - 1 = m := by omega
 have hA := ordA_eq l m (by omega) hm hb
 have hR := rnk_pl l m hm (by omega)
 have hP : plcL l = (plT m (fun i j : Fin (m + 1) => decide (rd l (j.val : Int) < rd l (i.val : Int)))).map fun (x : Nat) => (x : Int) := by
  unfold plcL
  rw [e1]
 have hO : ordL l = (ordA l m).toList.map fun i => (i.val : Int) := by
  unfold ordL
  rw [e1]
 have hsz : (ordA l m).size = m + 1 := by
  unfold ordA Go.Sort.insertionSort
  rw [size_insOuter _ _ _ _ _ _ rfl, Array.size_ofFn]
 have hol : (ordL l).length = m + 1 := by rw [hO]; simp [hsz]
 have hob : ∀ x ∈ ordL l, 0 ≤ x ∧ x < ((m + 1 : Nat) : Int) := fun x hx => by
  rw [hO] at hx
  obtain ⟨i, _, rfl⟩ := List.mem_map.1 hx
  have := i.isLt
  omega
 simp only [if_pos (show (0 : Int) ≤ (l.length : Int) by omega), if_pos (show ((l.length : Int) : Int).toNat ≤ 35184372088832 by omega)]
 rw [hP, ← hR]
 simp only [hm]
 refine rnk_l0 (sortIdx l) _ (m + 1) (by omega) ?_ (m + 1) 0 (by omega)
 have hS : sortIdx l (idxL (m + 1)) = some (ordL l) := by
  unfold sortIdx
  rw [if_pos ⟨h1, by omega, by rw [hm]⟩]
 rw [hS]
 simp only [Option.bind_some]
 have hl := rnk_l1 (sortIdx l) (ordL l) (m + 1) (by omega) hol hob (m + 1) 0 (List.replicate ((m + 1 : Nat) : Int).toNat 0) (by omega) (by simp)
 rw [hol]
 refine cast ?_ hl
 congr 1
 have hsA : (insT m fun i j : Fin (m + 1) => decide (rd l (j.val : Int) < rd l (i.val : Int))).size = m + 1 := by rw [← hA]; exact hsz
 unfold rnkT setsT
 rw [foldl_set_map (fun i => ((insT m fun i j => decide (rd l (j.val : Int) < rd l (i.val : Int))).toList.map fun i => i.val).getD i 0), hO, hA]
 have h0 : ∀ i : Nat, (rd ((insT m fun i j : Fin (m + 1) => decide (rd l (j.val : Int) < rd l (i.val : Int))).toList.map fun i => (i.val : Int)) (i : Int)).toNat = ((insT m fun i j : Fin (m + 1) => decide (rd l (j.val : Int) < rd l (i.val : Int))).toList.map fun i => i.val).getD i 0 := fun i => by
  generalize (insT m fun i j : Fin (m + 1) => decide (rd l (j.val : Int) < rd l (i.val : Int))).toList = o
  unfold rd
  rw [Int.toNat_natCast, List.getD_eq_getElem?_getD, List.getD_eq_getElem?_getD, List.getElem?_map, List.getElem?_map]
  cases o[i]? with
  | none => rfl
  | some x => rfl
 simp only [h0, List.length_map, Array.length_toList, hsA, List.map_replicate, Int.toNat_natCast, List.range_eq_range']
 rfl
end Go.Proofs.Ytmfpgimblifleaa.A

namespace Go.Proofs.Ytmfpgimblifleaa.A
open Go.RowKit Go.Proofs.YtmfpgimblifleaaW.PrintWords Go.Proofs.YtmfpgimblifleaaW.PrintLast Go.Proofs.YtmfpgimblifleaaW.PrintMore
set_option linter.unusedVariables false
set_option linter.unusedSimpArgs false
/-! spec.doPlaces -/
def aheadB (l : List Int) (i k : Nat) : Bool := decide (rd l (i : Int) < rd l (k : Int)) || (decide (rd l (k : Int) = rd l (i : Int)) && decide (k < i))
def plcI (l : List Int) (i : Nat) : Int := (((List.range l.length).countP (aheadB l i) : Nat) : Int)
theorem pl_l1 (l : List Int) (hn : l.length ≤ 12) (i : Nat) (hi : i < l.length) (out : List Int) (ho : out.length ≤ 12) {r : List Int} : ∀ (m j : Nat) (c : Nat), j + m = l.length → c ≤ j → Ev (fun k => spec_doPlaces.l0 k l (out ++ [((c + (List.range' j m).countP (aheadB l i) : Nat) : Int)]) l (l.length : Int) ((i : Int) + 1)) r → Ev (fun k => spec_doPlaces.l1 k l out (i : Int) (rd l (i : Int)) (c : Int) l (l.length : Int) (i : Int) l (l.length : Int) (j : Int)) r
 | 0, j, c, h, hc, hr => by
  refine Ev.succ ?_
  simp only [spec_doPlaces.l1, if_neg (show ¬ (j : Int) < (l.length : Int) by omega), if_pos (show out.length < 17592186044416 by omega), w64 (x := (i : Int) + 1) (by omega) (by omega)]
  exact hr
 | m + 1, j, c, h, hc, hr => by
  refine Ev.succ ?_
  simp only [spec_doPlaces.l1, if_pos (show (j : Int) < (l.length : Int) by omega), if_pos (show (0 : Int) ≤ (j : Int) by omega), w64 (x := (c : Int) + 1) (by omega) (by omega), w64 (x := (j : Int) + 1) (by omega) (by omega)]
  rw [List.range'_succ, List.countP_cons] at hr
  have up : aheadB l i j = true → Ev (fun k => spec_doPlaces.l1 k l out (i : Int) (rd l (i : Int)) ((c : Int) + 1) l (l.length : Int) (i : Int) l (l.length : Int) ((j : Int) + 1)) r := fun hb => by
   refine pl_l1 l hn i hi out ho m (j + 1) (c + 1) (by omega) (by omega) ?_
   rw [if_pos hb] at hr
   rw [show c + 1 + (List.range' (j + 1) m).countP (aheadB l i) = c + ((List.range' (j + 1) m).countP (aheadB l i) + 1) by omega]
   exact hr
  have dn : ¬ aheadB l i j = true → Ev (fun k => spec_doPlaces.l1 k l out (i : Int) (rd l (i : Int)) (c : Int) l (l.length : Int) (i : Int) l (l.length : Int) ((j : Int) + 1)) r := fun hb => by
   refine pl_l1 l hn i hi out ho m (j + 1) c (by omega) (by omega) ?_
   rw [if_neg hb, Nat.add_zero] at hr
   exact hr
  by_cases c1 : rd l (j : Int) > rd l (i : Int)
  · simp only [if_pos c1]
    exact up (by unfold aheadB; simp [show rd l (i : Int) < rd l (j : Int) from c1])
  · simp only [if_neg c1]
    by_cases c2 : rd l (j : Int) = rd l (i : Int)
    · simp only [if_pos c2]
      by_cases c3 : (j : Int) < (i : Int)
      · simp only [if_pos c3]
        exact up (by unfold aheadB; simp [c2, show j < i by omega])
      · simp only [if_neg c3]
        exact dn (by unfold aheadB; simp [c2, show ¬ j < i by omega])
    · simp only [if_neg c2]
      exact dn (by unfold aheadB; simp [show ¬ rd l (i : Int) < rd l (j : Int) by omega, c2])
theorem pl_l0 (l : List Int) (hn : l.length ≤ 12) : ∀ (m i : Nat) (out : List Int), i + m = l.length → out.length = i → Ev (fun k => spec_doPlaces.l0 k l out l (l.length : Int) (i : Int)) (out ++ (List.range' i m).map (plcI l))
 | 0, i, out, h, ho => by
  refine Ev.succ ?_
  simp only [spec_doPlaces.l0, if_neg (show ¬ (i : Int) < (l.length : Int) by omega), List.range'_zero, List.map_nil, List.append_nil]
  exact Ev.now _
 | m + 1, i, out, h, ho => by
  refine Ev.succ ?_
  simp only [spec_doPlaces.l0, if_pos (show (i : Int) < (l.length : Int) by omega), if_pos (show (0 : Int) ≤ (i : Int) by omega)]
  refine pl_l1 l hn i (by omega) out (by omega) l.length 0 0 (by omega) (by omega) ?_
  have ih := pl_l0 l hn m (i + 1) (out ++ [plcI l i]) (by omega) (by rw [List.length_append, ho]; rfl)
  rw [List.append_assoc] at ih
  rw [Nat.zero_add, ← List.range_eq_range']
  exact ih
theorem doPlaces_ev (l : List Int) (h1 : 1 ≤ l.length) (hn : l.length ≤ 12) : Ev (fun k => spec_doPlaces.f k l) (plcL l) := by
 unfold spec_doPlaces.f
 have h := pl_l0 l hn l.length 0 [] (by omega) rfl
 refine cast ?_ h
 congr 1
 rw [List.nil_append]
 unfold plcL plT
 rw [List.map_map]
 apply List.ext_getElem
 · simp
   omega
 · intro i h1' h2'
   have hi : i < l.length := by simpa using h1'
   simp only [List.getElem_map, List.getElem_range', List.getElem_ofFn, Function.comp_apply]
   unfold plcI
   congr 1
   rw [Nat.zero_add, Nat.one_mul]
   have e1 : l.length - 1 + 1 = l.length := by omega
   have hr : List.range l.length = (List.ofFn (fun k : Fin (l.length - 1 + 1) => k)).map Fin.val := by
    apply List.ext_getElem
    · simp
      omega
    · intro j a b
      simp [-List.ofFn_succ]
   rw [hr, List.countP_map]
   apply List.countP_congr
   intro k _
   simp only [Function.comp_apply]
   unfold aheadB
   by_cases c1 : rd l (i : Int) < rd l (k.val : Int)
   · simp [c1]
   · by_cases c2 : rd l (k.val : Int) < rd l (i : Int)
     · have c3 : ¬ rd l (k.val : Int) = rd l (i : Int) := by omega
       simp [c1, c2, c3]
     · have c3 : rd l (k.val : Int) = rd l (i : Int) := by omega
       simp [c3, Fin.lt_def]
end Go.Proofs.Ytmfpgimblifleaa.A

namespace Go.Proofs.Ytmfpgimblifleaa.A
open Go.RowKit Go.Proofs.YtmfpgimblifleaaW.PrintWords Go.Proofs.YtmfpgimblifleaaW.PrintLast Go.Proofs.YtmfpgimblifleaaW.PrintMore
set_option linter.unusedVariables false
set_option linter.unusedSimpArgs false
/-! TableFor's tail: the places, the greatest common divisor, the quotients -/
theorem plcL_perm (l : List Int) (h1 : 1 ≤ l.length) (h4 : l.length ≤ 4) : (plcL l).Perm (idxL l.length) := by
 have h := plT_perm l (l.length - 1) (by omega) (by omega)
 unfold plcL idxL
 have e : List.range l.length = List.range (l.length - 1 + 1) := by congr 1; omega
 rw [e]
 exact h.map _
theorem plcL_len (l : List Int) (h1 : 1 ≤ l.length) (h4 : l.length ≤ 4) : (plcL l).length = l.length := by
 rw [(plcL_perm l h1 h4).length_eq, idxL_len]
theorem plcL_mem (l : List Int) (h1 : 1 ≤ l.length) (h4 : l.length ≤ 4) {x : Int} (hx : x ∈ plcL l) : 0 ≤ x ∧ x < (l.length : Int) := by
 have h := (plcL_perm l h1 h4).mem_iff.1 hx
 unfold idxL at h
 obtain ⟨i, hi, rfl⟩ := List.mem_map.1 h
 have := List.mem_range.1 hi
 omega
theorem plcL_rd (l : List Int) (h1 : 1 ≤ l.length) (h4 : l.length ≤ 4) {i : Nat} (hi : i < l.length) : 0 ≤ rd (plcL l) (i : Int) ∧ rd (plcL l) (i : Int) < (l.length : Int) := by
 have hl := plcL_len l h1 h4
 have hr : rd (plcL l) (i : Int) = (plcL l)[i]'(by omega) := by
  unfold rd
  simp [List.getD_eq_getElem?_getD, List.getElem?_eq_getElem (show i < (plcL l).length by omega)]
 rw [hr]
 exact plcL_mem l h1 h4 (List.getElem_mem _)
def quoG (a b : List Int) (t : List (List Int)) (g : Nat) (i j : Nat) : Int := Int.tdiv (atG t (rd (plcL a) (i : Int)).toNat (rd (plcL b) (j : Int)).toNat) (g : Int)
def tailR (a b : List Int) (t : List (List Int)) : List (List Int) × Bool := checkR (tabG a.length (quoG a b t (gcdL 0 t.flatten)))
theorem tdiv_bd {x : Int} {g : Nat} (h0 : 0 ≤ x) (h1 : x ≤ 1000000) (hg : 0 < g) : 0 ≤ Int.tdiv x (g : Int) ∧ Int.tdiv x (g : Int) ≤ 1000000 := by
 obtain ⟨n, rfl⟩ := Int.eq_ofNat_of_zero_le h0
 rw [← Int.ofNat_tdiv]
 have h2 : n / g ≤ n := Nat.div_le_self n g
 generalize n / g = q at *
 omega
theorem implTail_ev (a b : List Int) (t : List (List Int)) (h1 : 1 ≤ a.length) (h4 : a.length ≤ 4) (hl : b.length = a.length) (ha : ∀ x ∈ a, 0 ≤ x ∧ x ≤ 60) (hb : ∀ x ∈ b, 0 ≤ x ∧ x ≤ 60) (T : Tab t) (ht : t.length = a.length) (hp : ∃ x ∈ t.flatten, 0 < x) : Ev (fun k => impl_TableForB.f k a b t (a.length : Int)) (tailR a b t) := by
 unfold impl_TableForB.f
 refine Ev.bind (ranks_ev a h1 h4 ha) (Ev.bind (ranks_ev b (by omega) (by omega) hb) ?_)
 have hnn : ∀ x ∈ t, x.length ≤ 100 ∧ ∀ y ∈ x, 0 ≤ y := fun x hx => ⟨by have := T.row x hx; omega, fun y hy => ((T.row x hx).2 y hy).1⟩
 have hg := gcdL_pos t.flatten 0 (Or.inr hp)
 refine div_l0 _ t (by omega) hnn t.length 0 0 (by omega) ?_
 rw [List.drop_zero]
 refine Ev.bind (square_ev _ (quoG a b t (gcdL 0 t.flatten)) a.length (by omega) (fun i j hi hj => ?_)) ?_
 · have la := plcL_len a h1 h4
   have lb := plcL_len b (by omega) (by omega)
   have ra := plcL_rd a h1 h4 hi
   have rb := plcL_rd b (by omega) (by omega) (show j < b.length by omega)
   unfold placeF quoG atG
   generalize rd (plcL a) (i : Int) = x at *
   generalize rd (plcL b) (j : Int) = y at *
   obtain ⟨x, rfl⟩ := Int.eq_ofNat_of_zero_le ra.1
   obtain ⟨y, rfl⟩ := Int.eq_ofNat_of_zero_le rb.1
   simp only [Int.toNat_natCast]
   have hrow := tab_rowlen T (show x < t.length by omega)
   have bd := atG_bd T (show x < t.length by omega) (show y < t.length by omega)
   have q := tdiv_bd bd.1 bd.2 hg
   unfold atG at q
   rw [if_pos ⟨by omega, by omega, by omega, by omega, by omega, by omega, by omega, by rw [hrow]; omega, by omega⟩, w64 (by omega) (by omega)]
 · simp only [checkedG_eq a.length (by omega), Option.bind_some]
   exact Ev.now _
end Go.Proofs.Ytmfpgimblifleaa.A

namespace Go.Proofs.Ytmfpgimblifleaa.A
open Go.RowKit Go.Proofs.YtmfpgimblifleaaW.PrintWords Go.Proofs.YtmfpgimblifleaaW.PrintLast Go.Proofs.YtmfpgimblifleaaW.PrintMore
set_option linter.unusedVariables false
set_option linter.unusedSimpArgs false
/-! spec.TableFor's tail -/
theorem fill2_ev {ρ : Type} {r : ρ} (n : Nat) (val S : Nat → Nat → Int) (g0 : Nat → List (List Int) → Int → Option ρ) (g1 : Nat → List (List Int) → Int → Int → Option ρ)
 (hend : Ev (fun k => g0 k (tabG n val) (n : Int)) r)
 (h0 : ∀ i, i < n → ∀ X : Nat → Nat → Int, Ev (fun k => g1 k (tabG n X) (i : Int) 0) r → Ev (fun k => g0 k (tabG n X) (i : Int)) r)
 (h1 : ∀ i j, i < n → j < n → ∀ H : Nat → Nat → Int, H i j = S i j → Ev (fun k => g1 k (tabG n (updG H i j (val i j))) (i : Int) ((j + 1 : Nat) : Int)) r → Ev (fun k => g1 k (tabG n H) (i : Int) (j : Int)) r)
 (h2 : ∀ i, i < n → ∀ X : Nat → Nat → Int, Ev (fun k => g0 k (tabG n X) ((i + 1 : Nat) : Int)) r → Ev (fun k => g1 k (tabG n X) (i : Int) (n : Int)) r) :
 Ev (fun k => g0 k (tabG n S) 0) r := by
 have row : ∀ i, i < n → (Ev (fun k => g0 k (tabG n fun a b => if a < i + 1 then val a b else S a b) ((i + 1 : Nat) : Int)) r) → ∀ (m j : Nat), j + m = n → Ev (fun k => g1 k (tabG n fun a b => if a < i ∨ (a = i ∧ b < j) then val a b else S a b) (i : Int) (j : Int)) r := by
  intro i hi hr m
  induction m with
  | zero =>
   intro j hj
   have e : j = n := by omega
   subst e
   refine h2 i hi _ ?_
   rw [tabG_congr (G' := fun a b => if a < i + 1 then val a b else S a b) (fun a b _ hb => by
    by_cases c : a < i + 1
    · rw [if_pos c, if_pos (by omega)]
    · rw [if_neg c, if_neg (by omega)])]
   exact hr
  | succ m ih =>
   intro j hj
   refine h1 i j hi (by omega) _ (by simp) ?_
   rw [tabG_congr (G' := fun a b => if a < i ∨ (a = i ∧ b < j + 1) then val a b else S a b) (fun a b _ hb => by
    unfold updG
    by_cases c : a = i ∧ b = j
    · rw [if_pos c, if_pos (by omega), c.1, c.2]
    · rw [if_neg c]
      show (if a < i ∨ (a = i ∧ b < j) then val a b else S a b) = _
      by_cases d : a < i ∨ (a = i ∧ b < j)
      · rw [if_pos d, if_pos (by omega)]
      · rw [if_neg d, if_neg (by omega)])]
   exact ih (j + 1) (by omega)
 have all : ∀ (m i : Nat), i + m = n → Ev (fun k => g0 k (tabG n fun a b => if a < i then val a b else S a b) (i : Int)) r := by
  intro m
  induction m with
  | zero =>
   intro i hi
   have e : i = n := by omega
   subst e
   rw [tabG_congr (G' := val) (fun a b ha _ => if_pos ha)]
   exact hend
  | succ m ih =>
   intro i hi
   refine h0 i (by omega) _ ?_
   have := row i (by omega) (ih (i + 1) (by omega)) n 0 (by omega)
   rw [tabG_congr (G' := fun a b => if a < i then val a b else S a b) (fun a b _ _ => by
    by_cases c : a < i
    · rw [if_pos c, if_pos (by omega)]
    · rw [if_neg c, if_neg (by omega)])] at this
   exact this
 have := all n 0 (by omega)
 rw [tabG_congr (G' := S) (fun a b _ _ => if_neg (by omega))] at this
 exact this
def gPre (n : Nat) (val : Nat → Nat → Int) (i j : Nat) : Nat := gcdL 0 (((List.range i).flatMap fun a => (List.range n).map (val a)) ++ (List.range j).map (val i))
theorem gPre_cell (n : Nat) (val : Nat → Nat → Int) (i j : Nat) : gPre n val i (j + 1) = Nat.gcd (gPre n val i j) (val i j).toNat := by
 unfold gPre gcdL
 rw [List.range_succ, List.map_append, ← List.append_assoc, List.foldl_append]
 rfl
theorem gPre_row (n : Nat) (val : Nat → Nat → Int) (i : Nat) : gPre n val i n = gPre n val (i + 1) 0 := by
 unfold gPre
 rw [List.range_succ (n := i), List.flatMap_append]
 simp
theorem gPre_end (n : Nat) (val : Nat → Nat → Int) : gPre n val n 0 = gcdL 0 (tabG n val).flatten := by
 unfold gPre tabG
 rw [List.range_zero, List.map_nil, List.append_nil, List.flatMap_def]
def prmG (a b : List Int) (t : List (List Int)) (i j : Nat) : Int := atG t (rd (plcL a) (i : Int)).toNat (rd (plcL b) (j : Int)).toNat
theorem specTail_ev (a b : List Int) (t : List (List Int)) (h1 : 1 ≤ a.length) (h4 : a.length ≤ 4) (hl : b.length = a.length) (T : Tab t) (ht : t.length = a.length) (hp : 0 < gcdL 0 (tabG a.length (prmG a b t)).flatten) : Ev (fun k => spec_TableForB.f k a b t (a.length : Int)) (checkR (tabG a.length fun i j => Int.tdiv (prmG a b t i j) ((gcdL 0 (tabG a.length (prmG a b t)).flatten : Nat) : Int))) := by
 unfold spec_TableForB.f
 refine Ev.bind (doPlaces_ev a h1 (by omega)) (Ev.bind (doPlaces_ev b (by omega) (by omega)) (Ev.bind (doEmpty_ev a.length (by omega)) ?_))
 have la := plcL_len a h1 h4
 have lb := plcL_len b (by omega) (by omega)
 have pb : ∀ i j, i < a.length → j < a.length → 0 ≤ prmG a b t i j ∧ prmG a b t i j ≤ 1000000 := fun i j hi hj => by
  have ra := plcL_rd a h1 h4 hi
  have rb := plcL_rd b (by omega) (by omega) (show j < b.length by omega)
  exact atG_bd T (by omega) (by omega)
 simp only [tabG_length]
 have key := fill_ev (r := checkR (tabG a.length fun i j => Int.tdiv (prmG a b t i j) ((gcdL 0 (tabG a.length (prmG a b t)).flatten : Nat) : Int))) a.length (prmG a b t)
  (fun k X i => spec_TableForB.l0 k t (plcL a) (plcL b) X ((gPre a.length (prmG a b t) i.toNat 0 : Nat) : Int) (a.length : Int) i)
  (fun k X i j => spec_TableForB.l1 k t (plcL a) (plcL b) X ((gPre a.length (prmG a b t) i.toNat j.toNat : Nat) : Int) i (a.length : Int) i (a.length : Int) j) ?_ ?_ ?_ ?_
 · exact key
 · refine Ev.succ ?_
   simp only [spec_TableForB.l0, if_neg (show ¬ (a.length : Int) < (a.length : Int) by omega), Int.toNat_natCast, gPre_end, tabG_length]
   have key2 := fill2_ev (r := checkR (tabG a.length fun i j => Int.tdiv (prmG a b t i j) ((gcdL 0 (tabG a.length (prmG a b t)).flatten : Nat) : Int))) a.length (fun i j => Int.tdiv (prmG a b t i j) ((gcdL 0 (tabG a.length (prmG a b t)).flatten : Nat) : Int)) (prmG a b t)
    (fun k X i => spec_TableForB.l2 k X ((gcdL 0 (tabG a.length (prmG a b t)).flatten : Nat) : Int) (a.length : Int) i)
    (fun k X i j => spec_TableForB.l3 k X ((gcdL 0 (tabG a.length (prmG a b t)).flatten : Nat) : Int) i (a.length : Int) i (a.length : Int) j) ?_ ?_ ?_ ?_
   · exact key2
   · refine Ev.succ ?_
     simp only [spec_TableForB.l2, if_neg (show ¬ (a.length : Int) < (a.length : Int) by omega)]
     exact Ev.bind (doIfG_ev a.length (by omega) _) (Ev.now _)
   · intro i hi X hr
     refine Ev.succ ?_
     simp only [spec_TableForB.l2, if_pos (show (i : Int) < (a.length : Int) by omega), tabG_length]
     exact hr
   · intro i j hi hj H hH hr
     have bd := pb i j hi hj
     have q := tdiv_bd bd.1 bd.2 hp
     refine Ev.succ ?_
     simp only [spec_TableForB.l3, if_pos (show (j : Int) < (a.length : Int) by omega), if_pos (show (0 : Int) ≤ (i : Int) by omega), if_pos (show (0 : Int) ≤ (j : Int) by omega), tabG_length, tabG_rowlen _ hi, if_pos (show (i : Int) < (a.length : Int) by omega), if_neg (show ¬ ((gcdL 0 (tabG a.length (prmG a b t)).flatten : Nat) : Int) = 0 by omega), tabG_at H hi hj, hH, Int.toNat_natCast, w64 (x := Int.tdiv (prmG a b t i j) ((gcdL 0 (tabG a.length (prmG a b t)).flatten : Nat) : Int)) (by omega) (by omega), w64 (x := (j : Int) + 1) (by omega) (by omega)]
     rw [tabG_set H j _ hi]
     exact hr
   · intro i hi X hr
     refine Ev.succ ?_
     simp only [spec_TableForB.l3, if_neg (show ¬ (a.length : Int) < (a.length : Int) by omega), w64 (x := (i : Int) + 1) (by omega) (by omega)]
     exact hr
 · intro i hi X hr
   refine Ev.succ ?_
   simp only [spec_TableForB.l0, if_pos (show (i : Int) < (a.length : Int) by omega), tabG_length]
   exact hr
 · intro i j hi hj H hH hr
   have bd := pb i j hi hj
   have ra := plcL_rd a h1 h4 hi
   have rb := plcL_rd b (by omega) (by omega) (show j < b.length by omega)
   have hrow := tab_rowlen T (show (rd (plcL a) (i : Int)).toNat < t.length by omega)
   rw [Int.toNat_of_nonneg ra.1] at hrow
   have hv : rd (rd_L1 t (rd (plcL a) (i : Int))) (rd (plcL b) (j : Int)) = prmG a b t i j := by
    unfold prmG atG
    rw [Int.toNat_of_nonneg ra.1, Int.toNat_of_nonneg rb.1]
   refine Ev.succ ?_
   simp only [spec_TableForB.l1, if_pos (show (j : Int) < (a.length : Int) by omega), if_pos (show (0 : Int) ≤ (i : Int) by omega), if_pos (show (0 : Int) ≤ (j : Int) by omega), tabG_length, tabG_rowlen _ hi, if_pos (show (i : Int) < (a.length : Int) by omega), if_pos (show (i : Int) < ((plcL a).length : Int) by omega), if_pos (show (j : Int) < ((plcL b).length : Int) by omega), if_pos ra.1, if_pos rb.1, if_pos (show rd (plcL a) (i : Int) < (t.length : Int) by omega), if_pos (show rd (plcL b) (j : Int) < ((rd_L1 t (rd (plcL a) (i : Int))).length : Int) by omega), hv, Int.toNat_natCast, Option.bind_some, tabG_set H j _ hi]
   simp only [tabG_rowlen _ hi, if_pos (show (j : Int) < (a.length : Int) by omega), tabG_at _ hi hj, w64 (x := (j : Int) + 1) (by omega) (by omega)]
   have hu : updG H i j (prmG a b t i j) i j = prmG a b t i j := if_pos ⟨rfl, rfl⟩
   rw [hu]
   have hd := doGcd_ev (prmG a b t i j).toNat (gPre a.length (prmG a b t) i j)
   rw [Int.toNat_of_nonneg bd.1, ← gPre_cell] at hd
   exact Ev.bind hd hr
 · intro i hi X hr
   refine Ev.succ ?_
   simp only [spec_TableForB.l1, if_neg (show ¬ (a.length : Int) < (a.length : Int) by omega), w64 (x := (i : Int) + 1) (by omega) (by omega), Int.toNat_natCast, gPre_row]
   exact hr
end Go.Proofs.Ytmfpgimblifleaa.A

namespace Go.Proofs.Ytmfpgimblifleaa.A
open Go.RowKit Go.Proofs.YtmfpgimblifleaaW.PrintWords Go.Proofs.YtmfpgimblifleaaW.PrintLast Go.Proofs.YtmfpgimblifleaaW.PrintMore
set_option linter.unusedVariables false
set_option linter.unusedSimpArgs false
/-! the permuted table has the same numbers -/
theorem flat_perm {f f' : Int → List Int} (h : ∀ x, (f x).Perm (f' x)) : ∀ L : List Int, (L.map f).flatten.Perm (L.map f').flatten
 | [] => List.Perm.refl _
 | a :: L => by
  rw [List.map_cons, List.map_cons, List.flatten_cons, List.flatten_cons]
  exact (h a).append (flat_perm h L)
theorem self_rd (l : List Int) : (List.range l.length).map (fun (i : Nat) => rd l (i : Int)) = l := by
 apply List.ext_getElem
 · simp
 · intro i h1 h2
   rw [List.getElem_map, List.getElem_range]
   unfold rd
   simp [List.getD_eq_getElem?_getD, List.getElem?_eq_getElem h2]
theorem flat_perm2 : ∀ {L L' : List (List Int)}, L.Perm L' → L.flatten.Perm L'.flatten := by
 intro L L' h
 induction h with
 | nil => exact List.Perm.refl _
 | cons a _ ih => exact List.Perm.append_left a ih
 | swap a b l =>
  simp only [List.flatten_cons]
  rw [← List.append_assoc, ← List.append_assoc]
  exact (List.perm_append_comm).append_right _
 | trans _ _ ih1 ih2 => exact ih1.trans ih2
theorem prm_perm (a b : List Int) (t : List (List Int)) (h1 : 1 ≤ a.length) (h4 : a.length ≤ 4) (hl : b.length = a.length) (T : Tab t) (ht : t.length = a.length) : (tabG a.length (prmG a b t)).flatten.Perm t.flatten := by
 have la := plcL_len a h1 h4
 have lb := plcL_len b (by omega) (by omega)
 have e1 : tabG a.length (prmG a b t) = (plcL a).map fun x => (plcL b).map fun y => atG t x.toNat y.toNat := by
  conv => rhs; rw [← self_rd (plcL a), ← self_rd (plcL b)]
  unfold tabG prmG
  rw [List.map_map, la, lb, hl]
  apply List.map_congr_left
  intro i _
  simp only [Function.comp_apply, List.map_map]
  rfl
 have e2 : t = (idxL a.length).map fun x => (idxL a.length).map fun y => atG t x.toNat y.toNat := by
  have hs := tabG_self (l := t) (fun x hx => (T.row x hx).1)
  conv => lhs; rw [← hs]
  unfold tabG idxL
  rw [ht, List.map_map]
  apply List.map_congr_left
  intro i _
  simp only [Function.comp_apply, List.map_map]
  rfl
 rw [e1]
 conv => rhs; rw [e2]
 have p1 := plcL_perm a h1 h4
 have p2 := plcL_perm b (by omega) (by omega)
 rw [hl] at p2
 exact (flat_perm2 (p1.map _)).trans (flat_perm (fun x => p2.map _) _)
theorem tail_eq (a b : List Int) (t : List (List Int)) (h1 : 1 ≤ a.length) (h4 : a.length ≤ 4) (hl : b.length = a.length) (T : Tab t) (ht : t.length = a.length) (hp : ∃ x ∈ t.flatten, 0 < x) : Ev (fun k => spec_TableForB.f k a b t (a.length : Int)) (tailR a b t) := by
 have hg := gcdL_perm (prm_perm a b t h1 h4 hl T ht) 0
 have h0 := gcdL_pos t.flatten 0 (Or.inr hp)
 have h := specTail_ev a b t h1 h4 hl T ht (by rw [hg]; exact h0)
 rw [hg] at h
 exact h
end Go.Proofs.Ytmfpgimblifleaa.A

namespace Go.Proofs.Ytmfpgimblifleaa.A
open Go.RowKit Go.Proofs.YtmfpgimblifleaaW.PrintWords Go.Proofs.YtmfpgimblifleaaW.PrintLast Go.Proofs.YtmfpgimblifleaaW.PrintMore
set_option linter.unusedVariables false
set_option linter.unusedSimpArgs false
def betB (a b : List Int) : Bool := if goodL a = true then (if goodL b = true then majB a b else false) else false
theorem isBetween_ev (a b : List Int) (ha : a.length ≤ 1048576) (hb : b.length ≤ 1048576) : Ev (fun k => impl_isBetween.f k a b) (betB a b) := by
 unfold impl_isBetween.f betB
 refine Ev.bind (areLists_ev a b ha hb) ?_
 by_cases ga : goodL a = true
 · by_cases gb : goodL b = true
   · simp only [ga, gb, if_true]
     exact Ev.bind (isMajorized_ev a b (good_sm ga) (good_sm gb)) (Ev.now _)
   · simp only [ga, if_true, if_neg gb]
     exact Ev.now _
 · simp only [if_neg ga, Bool.false_eq_true, if_false]
   exact Ev.now _
theorem betB_iff (a b : List Int) : betB a b = true ↔ goodL a = true ∧ goodL b = true ∧ majB a b = true := by
 unfold betB
 split
 · split <;> simp_all
 · simp_all
end Go.Proofs.Ytmfpgimblifleaa.A

namespace Go.Proofs.Ytmfpgimblifleaa.A
open Go.RowKit Go.Proofs.YtmfpgimblifleaaW.PrintWords Go.Proofs.YtmfpgimblifleaaW.PrintLast Go.Proofs.YtmfpgimblifleaaW.PrintMore
set_option linter.unusedVariables false
set_option linter.unusedSimpArgs false
/-! TableFor: the heads of both, joined with the run and the tail -/
theorem unl_le (x y : List Int) : unl x y ≤ x.length := by
 unfold unl
 have h := List.countP_le_length (p := fun (k : Nat) => decide (rd x (k : Int) ≠ rd y (k : Int))) (l := List.range x.length)
 rw [List.length_range] at h
 exact h
theorem oneG_kt (n : Nat) : Kt n 0 (tabG n oneG) := by
 refine ⟨tabG_length _ _, fun x hx => ?_, fun a b ha hb => ?_, fun a ha => ⟨a, ha, ?_⟩⟩
 · unfold tabG at hx
   obtain ⟨i, _, rfl⟩ := List.mem_map.1 hx
   simp
 · rw [atG_tab _ ha hb]
   unfold oneG
   split <;> simp
 · rw [atG_tab _ ha ha]
   unfold oneG
   simp
theorem good_rd {l : List Int} (h : goodL l = true) {k : Nat} (hk : k < l.length) : 0 ≤ rd (descL l) (k : Int) ∧ rd (descL l) (k : Int) ≤ 60 := by
 have hl := descL_length l
 rw [rdn (show k < (descL l).length by omega)]
 exact ((goodL_iff l).1 h).2.2 _ (descL_mem.1 (List.getElem_mem _))
theorem st_start {a b : List Int} (h : betB a b = true) (h4 : a.length ≤ 4) : St a.length 0 (descL b) (descL a) (tabG a.length oneG) := by
 obtain ⟨ga, gb, hm⟩ := (betB_iff a b).1 h
 have hd := (majB_dom a b).1 hm
 have hl := hd.1
 have la := descL_length a
 have lb := descL_length b
 have hu := unl_le (descL b) (descL a)
 exact ⟨by omega, la, h4, hd, fun k hk => good_rd gb (by omega), fun k hk => good_rd ga (by omega), descL_desc a, by omega, oneG_kt _⟩
theorem kt_pos {n c : Nat} {t : List (List Int)} (h1 : 1 ≤ n) (h : Kt n c t) : ∃ x ∈ t.flatten, 0 < x := by
 obtain ⟨b, hb, hp⟩ := h.pos 0 (by omega)
 have hl := h.len
 have hr := h.row _ (List.getElem_mem (show 0 < t.length by omega))
 refine ⟨atG t 0 b, ?_, hp⟩
 unfold atG
 rw [rd_L1n (show 0 < t.length by omega), rdn (show b < t[0].length by omega)]
 exact List.mem_flatten.2 ⟨t[0], List.getElem_mem _, List.getElem_mem _⟩
theorem tf_run {a b : List Int} (h : betB a b = true) (h4 : a.length ≤ 4) : ∃ T : List (List Int), Tab T ∧ T.length = a.length ∧ (∃ x ∈ T.flatten, 0 < x) ∧ Rch a.length (descL a) (descL b) (tabG a.length oneG) T ∧ ∀ (TB : Nat → List (List Int) → Option (List (List Int) × Bool)) (r : List (List Int) × Bool), Ev (fun k => TB k T) r → Ev (fun k => (spec_doStep.f k (descL b) (descL a)).bind fun bt => spec_TableFor.l1 TB k (a.length : Int) (descL b) (descL a) (tabG a.length oneG) bt.1 bt.2.1 bt.2.2.1 bt.2.2.2) r ∧ Ev (fun k => impl_TableFor.l0 TB k (a.length : Int) (descL b) (descL a) (tabG a.length oneG)) r := by
 have hg := (goodL_iff a).1 ((betB_iff a b).1 h).1
 obtain ⟨T, c, hT, hc, hR, hE⟩ := run_both a.length (descL a) _ 0 (descL b) (tabG a.length oneG) (st_start h h4) (by omega) (Nat.le_refl _)
 exact ⟨T, kt_tab h4 hc hT, hT.len, kt_pos hg.1 hT, hR, hE⟩
noncomputable def tfT (a b : List Int) : List (List Int) := if h : betB a b = true ∧ a.length ≤ 4 then Classical.choose (tf_run h.1 h.2) else []
theorem tfT_spec {a b : List Int} (h : betB a b = true) (h4 : a.length ≤ 4) : Tab (tfT a b) ∧ (tfT a b).length = a.length ∧ (∃ x ∈ (tfT a b).flatten, 0 < x) ∧ Rch a.length (descL a) (descL b) (tabG a.length oneG) (tfT a b) ∧ ∀ (TB : Nat → List (List Int) → Option (List (List Int) × Bool)) (r : List (List Int) × Bool), Ev (fun k => TB k (tfT a b)) r → Ev (fun k => (spec_doStep.f k (descL b) (descL a)).bind fun bt => spec_TableFor.l1 TB k (a.length : Int) (descL b) (descL a) (tabG a.length oneG) bt.1 bt.2.1 bt.2.2.1 bt.2.2.2) r ∧ Ev (fun k => impl_TableFor.l0 TB k (a.length : Int) (descL b) (descL a) (tabG a.length oneG)) r := by
 unfold tfT
 rw [dif_pos ⟨h, h4⟩]
 exact Classical.choose_spec (tf_run h h4)
noncomputable def tfR (a b : List Int) : List (List Int) × Bool := if betB a b = true then (if a.length ≤ 4 then tailR a b (tfT a b) else ([], false)) else ([], false)
theorem tfR_bd (a b : List Int) : totSS (tfR a b).1 ≤ 1000 ∧ (tfR a b).1.length ≤ 1000 := by
 unfold tfR
 split
 · split
   · exact checkR_bd _
   · exact ⟨by decide, by decide⟩
 · exact ⟨by decide, by decide⟩
theorem bet_len {a b : List Int} (h : betB a b = true) : b.length = a.length := by
 have hd := ((majB_dom a b).1 ((betB_iff a b).1 h).2.2).1
 rw [descL_length, descL_length] at hd
 exact hd
theorem specTableFor_ev (a b : List Int) (ha : a.length ≤ 1048576) (hb : b.length ≤ 1048576) : Ev (fun k => spec_TableFor.f k a b) (tfR a b) := by
 unfold spec_TableFor.f
 by_cases ga : goodL a = true
 · refine Ev.bind (liGood_ev a (by omega)) ?_
   by_cases gb : goodL b = true
   · simp only [ga, if_true]
     refine Ev.bind (liGood_ev b (by omega)) ?_
     simp only [gb, if_true]
     by_cases h4 : (a.length : Int) > 4
     · simp only [if_pos h4]
       refine Ev.succ ?_
       simp only [spec_TableFor.j0, if_true]
       have e : tfR a b = ([], false) := by
        unfold tfR
        rw [if_neg (show ¬ a.length ≤ 4 by omega), ite_self]
       rw [e]
       exact Ev.now _
     · simp only [if_neg h4]
       refine Ev.bind (liBelow_ev a b (good_sm ga) (good_sm gb)) ?_
       by_cases hm : majB a b = true
       · have h := (betB_iff a b).2 ⟨ga, gb, hm⟩
         have h1 := ((goodL_iff a).1 ga)
         have h2 := ((goodL_iff b).1 gb)
         have hl := bet_len h
         obtain ⟨hT, hTl, hTp, hR, hE⟩ := tfT_spec h (show a.length ≤ 4 by omega)
         refine Ev.succ ?_
         simp only [spec_TableFor.j0, hm, Bool.not_true, Bool.false_eq_true, if_false]
         refine Ev.bind (liRank_ev b (by omega)) (Ev.bind (liRank_ev a (by omega)) (Ev.bind (doEmpty_ev a.length (by omega)) ?_))
         have e : tfR a b = tailR a b (tfT a b) := by
          unfold tfR
          rw [if_pos h, if_pos (show a.length ≤ 4 by omega)]
         rw [e, tabG_length]
         have hS := sunit_l (fun q t => spec_TableForB.f q a b t (a.length : Int)) (descL b) (descL a) a.length (by omega) (hE (fun q t => spec_TableForB.f q a b t (a.length : Int)) _ (tail_eq a b (tfT a b) h1.1 (by omega) hl hT hTl hTp)).1 a.length 0 (by omega)
         rw [tabG_congr (G' := fun _ _ => 0) (fun i j _ _ => by simp)] at hS
         exact hS
       · refine Ev.succ ?_
         simp only [spec_TableFor.j0, Bool.eq_false_iff.2 hm, Bool.not_false, if_true]
         have e : tfR a b = ([], false) := by
          unfold tfR
          rw [if_neg (fun h => hm ((betB_iff a b).1 h).2.2)]
         rw [e]
         exact Ev.now _
   · simp only [ga, if_true]
     refine Ev.bind (liGood_ev b (by omega)) ?_
     simp only [if_neg gb]
     refine Ev.succ ?_
     simp only [spec_TableFor.j0, if_true]
     have e : tfR a b = ([], false) := by
      unfold tfR
      rw [if_neg (fun h => gb ((betB_iff a b).1 h).2.1)]
     rw [e]
     exact Ev.now _
 · refine Ev.bind (liGood_ev a (by omega)) ?_
   simp only [if_neg ga]
   refine Ev.succ ?_
   simp only [spec_TableFor.j0, if_true]
   have e : tfR a b = ([], false) := by
    unfold tfR
    rw [if_neg (fun h => ga ((betB_iff a b).1 h).1)]
   rw [e]
   exact Ev.now _
theorem implTableFor_ev (a b : List Int) (ha : a.length ≤ 1048576) (hb : b.length ≤ 1048576) : Ev (fun k => impl_TableFor.f k a b) (tfR a b) := by
 unfold impl_TableFor.f
 refine Ev.bind (isBetween_ev a b ha hb) ?_
 by_cases h : betB a b = true
 · have ga := ((betB_iff a b).1 h).1
   have gb := ((betB_iff a b).1 h).2.1
   have h1 := ((goodL_iff a).1 ga)
   have h2 := ((goodL_iff b).1 gb)
   have hl := bet_len h
   simp only [h, if_true]
   refine Ev.succ ?_
   by_cases h4 : (a.length : Int) > 4
   · simp only [impl_TableFor.j0, decide_eq_true h4, if_true]
     have e : tfR a b = ([], false) := by
      unfold tfR
      rw [if_neg (show ¬ a.length ≤ 4 by omega), ite_self]
     rw [e]
     exact Ev.now _
   · obtain ⟨hT, hTl, hTp, hR, hE⟩ := tfT_spec h (show a.length ≤ 4 by omega)
     simp only [impl_TableFor.j0, decide_eq_false h4, Bool.false_eq_true, if_false, ranking_eq (good_sm ga), ranking_eq (good_sm gb), Option.bind_some]
     refine Ev.bind (iunit_ev a.length (by omega)) ?_
     have e : tfR a b = tailR a b (tfT a b) := by
      unfold tfR
      rw [if_pos h, if_pos (show a.length ≤ 4 by omega)]
     rw [e]
     exact (hE (fun q t => impl_TableForB.f q a b t (a.length : Int)) _ (implTail_ev a b (tfT a b) h1.1 (by omega) hl (fun x hx => h1.2.2 x hx) (fun x hx => h2.2.2 x hx) hT hTl hTp)).2
 · simp only [if_neg h]
   refine Ev.succ ?_
   simp only [impl_TableFor.j0, if_true]
   have e : tfR a b = ([], false) := by
    unfold tfR
    rw [if_neg h]
   rw [e]
   exact Ev.now _
end Go.Proofs.Ytmfpgimblifleaa.A

namespace Go.Proofs.Ytmfpgimblifleaa.A
open Go.RowKit Go.Proofs.YtmfpgimblifleaaW.PrintWords Go.Proofs.YtmfpgimblifleaaW.PrintLast Go.Proofs.YtmfpgimblifleaaW.PrintMore
set_option linter.unusedVariables false
set_option linter.unusedSimpArgs false
theorem toIntS_l (xs : List Int) (hx : xs.length ≤ 35184372088832) : ∀ (n i : Nat) (ys : List Int), i + n = xs.length → ys.length = xs.length → ys.take i = xs.take i → Ev (fun k => laws_toIntS.l0 k xs ys (i : Int)) xs
 | 0, i, ys, h, hl, ht => by
  refine Ev.succ ?_
  simp only [laws_toIntS.l0, if_neg (show ¬ (i : Int) < (xs.length : Int) by omega)]
  rw [List.take_of_length_le (by omega), List.take_of_length_le (by omega)] at ht
  rw [ht]
  exact Ev.now _
 | n + 1, i, ys, h, hl, ht => by
  have hi : i < xs.length := by omega
  refine Ev.succ ?_
  simp only [laws_toIntS.l0, if_pos (show (i : Int) < (xs.length : Int) by omega), if_pos (show (i : Int) < (ys.length : Int) by omega), if_pos (show (0 : Int) ≤ (i : Int) by omega), rdn hi, wsucc hi (by omega), Int.toNat_natCast]
  refine toIntS_l xs hx n (i + 1) _ (by omega) (by rw [List.length_set]; exact hl) ?_
  rw [List.take_add_one, List.take_add_one, List.take_set_of_le (Nat.le_refl _), ht]
  congr 1
  rw [List.getElem?_set_self (by omega), List.getElem?_eq_getElem hi]
theorem toIntS_ev (xs : List Int) (hx : xs.length ≤ 35184372088832) : Ev (fun k => laws_toIntS.f k xs) xs := by
 unfold laws_toIntS.f
 simp only [if_pos (show (0 : Int) ≤ (xs.length : Int) by omega), Int.toNat_natCast, if_pos hx]
 exact toIntS_l xs hx xs.length 0 _ (by omega) (by simp) (by simp)
end Go.Proofs.Ytmfpgimblifleaa.A

namespace Go.Proofs.Ytmfpgimblifleaa.A
open Go.RowKit Go.Proofs.YtmfpgimblifleaaW.PrintWords Go.Proofs.YtmfpgimblifleaaW.PrintLast Go.Proofs.YtmfpgimblifleaaW.PrintMore
set_option linter.unusedVariables false
set_option linter.unusedSimpArgs false
set_option maxHeartbeats 8000000 in
set_option maxRecDepth 100000 in
theorem FnExactTableFor_walk (A0 : Option Addr) (c0 : Nat) (l0 : List Int) (A1 : Option Addr) (c1 : Nat) (l1 : List Int) (W : World) (hr0 : Kd.C (Kd.int .i64) W A0 l0.length l0) (hc0 : l0.length ≤ c0) (hr1 : Kd.C (Kd.int .i64) W A1 l1.length l1) (hc1 : l1.length ≤ c1) (m0 : l0.length ≤ maxLen) (m1 : l1.length ≤ maxLen) :
 Calls Try.prog 3 #[.slice A0 l0.length c0, .slice A1 l1.length c1] W fun e w' => e = .returned (.bool true) ∧ Below W.heap.size W w' := by
 have HR0 := Aside0.mk hr0
 have HC0 := Aside0.mk hc0
 have HR1 := Aside0.mk hr1
 have HC1 := Aside0.mk hc1
 have HB := Aside0.mk (Below.refl W.heap.size W)
 (try clear hr0); (try clear hc0); (try clear hr1); (try clear hc1)
 by_cases q0 : (l0.length : Int) > 1048576
 · have q0b : decide ((l0.length : Int) > 1048576) = true := decide_eq_true q0
   (try clear q0); (try clear m0); (try clear m1)
   go_enter Try.func3, Try.ntmps3
   go_wp2
   go_ret
   exact ⟨rfl, (by repeat (first | (with_reducible first | exact HB.out | apply below_alloc | apply pw_below_drewN | apply below_drew1) | exact HB.out))⟩
 have q0b : decide ((l0.length : Int) > 1048576) = false := decide_eq_false q0
 by_cases q1 : (l1.length : Int) > 1048576
 · have q1b : decide ((l1.length : Int) > 1048576) = true := decide_eq_true q1
   (try clear q1); (try clear m0); (try clear m1); (try clear q0)
   go_enter Try.func3, Try.ntmps3
   go_wp2
   go_ret
   exact ⟨rfl, (by repeat (first | (with_reducible first | exact HB.out | apply below_alloc | apply pw_below_drewN | apply below_drew1) | exact HB.out))⟩
 have q1b : decide ((l1.length : Int) > 1048576) = false := decide_eq_false q1
 obtain ⟨kt0, ht0⟩ := Ev.get (toIntS_ev l0 (by omega))
 have AT0 := Aside0.mk ht0
 obtain ⟨kt1, ht1⟩ := Ev.get (toIntS_ev l1 (by omega))
 have AT1 := Aside0.mk ht1
 obtain ⟨kS, hS⟩ := Ev.get (specTableFor_ev l0 l1 (by omega) (by omega))
 obtain ⟨kI, hI⟩ := Ev.get (implTableFor_ev l0 l1 (by omega) (by omega))
 have hbd := tfR_bd l0 l1
 generalize tfR l0 l1 = R at hS hI hbd
 obtain ⟨L0, b⟩ := R
 simp only at hbd
 obtain ⟨hb0, hb1⟩ := hbd
 have AS := Aside0.mk hS
 have AI := Aside0.mk hI
 have hbb : (b != b) = false := by simp
 obtain ⟨kAE0, hAE0⟩ := Ev.get (eqIntSS_self L0 (by omega) (by omega))
 obtain ⟨kAE1, hAE1⟩ := Ev.get (eqIntS_self l0 (by omega))
 obtain ⟨kAE2, hAE2⟩ := Ev.get (eqIntS_self l1 (by omega))
 obtain ⟨T0, hT0⟩ : ∃ T : Int, T = 1 + (l0.length : Int) := ⟨_, rfl⟩
 obtain ⟨kAK0, hAK0⟩ := Ev.get (markIntS_ev l0 1 (by omega) (by omega))
 rw [← hT0] at hAK0
 obtain ⟨M0, hM0⟩ : ∃ M, M = marks 1 l0.length := ⟨_, rfl⟩
 have hM0l : M0.length = l0.length := by rw [hM0, marks_length]
 rw [← hM0] at hAK0
 have qT0 : decide (T0 < 0) = false := decide_eq_false (by omega)
 have qT0n : (T0 != T0) = false := by simp
 obtain ⟨T1, hT1⟩ : ∃ T : Int, T = T0 + (l1.length : Int) := ⟨_, rfl⟩
 obtain ⟨kAK1, hAK1⟩ := Ev.get (markIntS_ev l1 T0 (by omega) (by omega))
 rw [← hT1] at hAK1
 obtain ⟨M1, hM1⟩ : ∃ M, M = marks T0 l1.length := ⟨_, rfl⟩
 have hM1l : M1.length = l1.length := by rw [hM1, marks_length]
 rw [← hM1] at hAK1
 have qT1 : decide (T1 < 0) = false := decide_eq_false (by omega)
 have qT1n : (T1 != T1) = false := by simp
 obtain ⟨T2, hT2⟩ : ∃ T : Int, T = 1 + (totSS L0 : Int) := ⟨_, rfl⟩
 have hAK2 := fun (v : Value) (W W' : World) (P : Nat → Prop) (hB : Below W.heap.size W W') (hS : Kd.S (Kd.slice 3 (Kd.int .i64)) 22 W' W.heap.size P v L0) => markSS_calls mark_any P v L0 1 W W' (by omega) (by omega) (by omega) hB hS
 rw [← hT2] at hAK2
 obtain ⟨M2, hM2⟩ : ∃ M, M = markSS 1 L0 := ⟨_, rfl⟩
 have hM2l : M2.length = L0.length := by rw [hM2, markSS_length]
 rw [← hM2] at hAK2
 have qT2 : decide (T2 < 0) = false := decide_eq_false (by omega)
 have qT2n : (T2 != T2) = false := by simp
 obtain ⟨kAH2, hhAH2⟩ := Ev.get (heldIntSS_ev 1 L0 (by omega) (by omega) (by omega))
 rw [← hM2, ← hT2] at hhAH2
 have hAH2 : ∀ (A : Option Addr) (c : Nat) (w' : World), (∃ P : Nat → Prop, Kd.S (Kd.slice 3 (Kd.int .i64)) 22 w' W.heap.size P (.slice A L0.length c) M2) → Calls Try.prog 11 #[.slice A L0.length c, .int .i64 1] w' fun e w'' => e = .returned (.int .i64 T2) ∧ Drawn0 w' w'' := fun A c w' hS' => by
  obtain ⟨P, hS⟩ := hS'
  have h1 := (Kd.S_reads' hS).2
  rw [← hM2l] at h1 ⊢
  exact laws_heldIntSS.calls kAH2 A c M2 1 T2 w' h1.2 h1.1 hhAH2
 have AE0 := Aside0.mk hAE0
 have AE1 := Aside0.mk hAE1
 have AE2 := Aside0.mk hAE2
 have AK0 := Aside0.mk hAK0
 have AK1 := Aside0.mk hAK1
 have AK2 := Aside0.mk hAK2
 have AH2 := Aside0.mk hAH2
 obtain ⟨n0, hn0⟩ : ∃ n, n = W.heap.size := ⟨_, rfl⟩
 have HN := Aside0.mk (Nat.le_of_eq hn0)
 (try clear hAE0); (try clear hAE1); (try clear hAE2); (try clear hAK0); (try clear hAK1); (try clear hAK2); (try clear hAH2); (try clear hhAH2); (try clear hT0); (try clear hM0); (try clear hT1); (try clear hM1); (try clear hT2); (try clear hM2); (try clear hM0l); (try clear hM1l); (try clear hM2l); (try clear hS); (try clear hI); (try clear hn0); (try clear hb0); (try clear hb1); (try clear ht0); (try clear ht1); (try clear m0); (try clear m1); (try clear q0); (try clear q1)
 go_enter Try.func3, Try.ntmps3
 go_upto_region 6 with (first | ((with_reducible refine gate_callee (f := 5) rfl ?_); refine goesL_ (some 24) rfl rfl Try.func5 (by kernel_rfl) rfl #[.slice A0 l0.length c0] rfl (by (try simp only [List.map_toArray, List.map_cons, List.map_nil]); first | done | rfl | (simp only [List.length_drop, List.length_take]; rfl)) ?_; (with_reducible refine (laws_toIntS.calls kt0 _ _ l0 l0 _ ?side1 ?side2 AT0.out).mono ?_); (case side1 => exact (Kd.C_below HR0.out (by repeat (first | (with_reducible first | exact HB.out | apply below_alloc | apply pw_below_drewN | apply below_drew1) | exact HB.out)))); (case side2 => exact HC0.out); rintro e w1 ⟨vv0, rfl, ho0, hb⟩; refine ⟨_, rfl, ?_⟩; obtain ⟨n1, hn_⟩ : ∃ n, n = w1.heap.size := ⟨_, rfl⟩; have HLn1 := Aside0.mk (show n0 ≤ n1 from Nat.le_trans HN.out (Nat.le_trans hb.size (Nat.le_of_eq hn_.symm))); have HV0 := Aside0.mk (Kd.R_mono (ok' := fun k => n0 ≤ k ∧ k < n1) (Kd.R_lower (Kd.R_bound ho0) (below_size (by repeat (first | (with_reducible first | exact HB.out | apply below_alloc | apply pw_below_drewN | apply below_drew1) | exact HB.out)))) (fun k hk => ⟨Nat.le_trans HN.out hk.2.1, by have := hk.2.2.1; omega⟩)); have HB2 := Aside0.mk (below_step (by repeat (first | (with_reducible first | exact HB.out | apply below_alloc | apply pw_below_drewN | apply below_drew1) | exact HB.out)) hb); have HN2_ := Aside0.mk (Nat.le_of_eq hn_); clear HB HN hb hn_ ho0; have HB := HB2; have HN := HN2_; clear HB2 HN2_ ; obtain ⟨B0, cc0, es_⟩ := Kd.R_slice HV0.out; subst es_) | ((with_reducible refine gate_callee (f := 5) rfl ?_); refine goesL_ (some 26) rfl rfl Try.func5 (by kernel_rfl) rfl #[.slice A1 l1.length c1] rfl (by (try simp only [List.map_toArray, List.map_cons, List.map_nil]); first | done | rfl | (simp only [List.length_drop, List.length_take]; rfl)) ?_; (with_reducible refine (laws_toIntS.calls kt1 _ _ l1 l1 _ ?side1 ?side2 AT1.out).mono ?_); (case side1 => exact (Kd.C_below HR1.out (by repeat (first | (with_reducible first | exact HB.out | apply below_alloc | apply pw_below_drewN | apply below_drew1) | exact HB.out)))); (case side2 => exact HC1.out); rintro e w2 ⟨vv0, rfl, ho0, hb⟩; refine ⟨_, rfl, ?_⟩; obtain ⟨n2, hn_⟩ : ∃ n, n = w2.heap.size := ⟨_, rfl⟩; have HLn2 := Aside0.mk (show n1 ≤ n2 from Nat.le_trans HN.out (Nat.le_trans hb.size (Nat.le_of_eq hn_.symm))); have HV1 := Aside0.mk (Kd.R_mono (ok' := fun k => n1 ≤ k ∧ k < n2) (Kd.R_lower (Kd.R_bound ho0) (below_size (by repeat (first | (with_reducible first | exact HB.out | apply below_alloc | apply pw_below_drewN | apply below_drew1) | exact HB.out)))) (fun k hk => ⟨Nat.le_trans HN.out hk.2.1, by have := hk.2.2.1; omega⟩)); have HV02 := Aside0.mk (Kd.R_below (by (with_reducible repeat (first | apply Kd.R_alloc | apply Kd.R_drewN | apply Kd.R_drew)); exact HV0.out) hb); have HB2 := Aside0.mk (below_step (by repeat (first | (with_reducible first | exact HB.out | apply below_alloc | apply pw_below_drewN | apply below_drew1) | exact HB.out)) hb); have HN2_ := Aside0.mk (Nat.le_of_eq hn_); clear HB HN hb hn_ ho0 HV0; have HB := HB2; have HN := HN2_; have HV0 := HV02; clear HB2 HN2_ HV02; obtain ⟨B1, cc1, es_⟩ := Kd.R_slice HV1.out; subst es_) | ((with_reducible refine gate_callee (f := 4) rfl ?_); refine goesL_ (some 27) rfl rfl Try.func4 (by kernel_rfl) rfl #[.slice B0 l0.length cc0, .slice B1 l1.length cc1] rfl (by (try simp only [List.map_toArray, List.map_cons, List.map_nil]); first | done | rfl | (simp only [List.length_drop, List.length_take]; rfl)) ?_; (with_reducible refine (spec_TableFor.calls kS _ _ l0 _ _ l1 L0 b _ ?side1 ?side2 ?side3 ?side4 AS.out).mono ?_); (case side1 => exact (Kd.R_reads' (by (with_reducible repeat (first | apply Kd.R_alloc | apply Kd.R_drewN | apply Kd.R_drew)); exact HV0.out)).2.2); (case side2 => exact (Kd.R_reads' HV0.out).2.1); (case side3 => exact (Kd.R_reads' (by (with_reducible repeat (first | apply Kd.R_alloc | apply Kd.R_drewN | apply Kd.R_drew)); exact HV1.out)).2.2); (case side4 => exact (Kd.R_reads' HV1.out).2.1); rintro e w3 ⟨vv0, rfl, ho0, hb⟩; refine ⟨_, rfl, ?_⟩; obtain ⟨n3, hn_⟩ : ∃ n, n = w3.heap.size := ⟨_, rfl⟩; have HLn3 := Aside0.mk (show n2 ≤ n3 from Nat.le_trans HN.out (Nat.le_trans hb.size (Nat.le_of_eq hn_.symm))); have HV2 := Aside0.mk (Kd.V_mono (ok' := fun k => n2 ≤ k ∧ k < n3) (Kd.V_lower (Kd.V_bound ho0) (below_size (by repeat (first | (with_reducible first | exact HB.out | apply below_alloc | apply pw_below_drewN | apply below_drew1) | exact HB.out)))) (fun k hk => ⟨Nat.le_trans HN.out hk.1, by have := hk.2; omega⟩)); have HV02 := Aside0.mk (Kd.R_below (by (with_reducible repeat (first | apply Kd.R_alloc | apply Kd.R_drewN | apply Kd.R_drew)); exact HV0.out) hb); have HV12 := Aside0.mk (Kd.R_below (by (with_reducible repeat (first | apply Kd.R_alloc | apply Kd.R_drewN | apply Kd.R_drew)); exact HV1.out) hb); have HB2 := Aside0.mk (below_step (by repeat (first | (with_reducible first | exact HB.out | apply below_alloc | apply pw_below_drewN | apply below_drew1) | exact HB.out)) hb); have HN2_ := Aside0.mk (Nat.le_of_eq hn_); clear HB HN hb hn_ ho0 HV0 HV1; have HB := HB2; have HN := HN2_; have HV0 := HV02; have HV1 := HV12; clear HB2 HN2_ HV02 HV12; obtain ⟨B2, cc2, es_⟩ := Kd.V_slice HV2.out; subst es_))
 go_upto_region 7 with (first | ((with_reducible refine gate_callee (f := 5) rfl ?_); refine goesL_ (some 31) rfl rfl Try.func5 (by kernel_rfl) rfl #[.slice A0 l0.length c0] rfl (by (try simp only [List.map_toArray, List.map_cons, List.map_nil]); first | done | rfl | (simp only [List.length_drop, List.length_take]; rfl)) ?_; (with_reducible refine (laws_toIntS.calls kt0 _ _ l0 l0 _ ?side1 ?side2 AT0.out).mono ?_); (case side1 => exact (Kd.C_below HR0.out (by repeat (first | (with_reducible first | exact HB.out | apply below_alloc | apply pw_below_drewN | apply below_drew1) | exact HB.out)))); (case side2 => exact HC0.out); rintro e w4 ⟨vv0, rfl, ho0, hb⟩; refine ⟨_, rfl, ?_⟩; obtain ⟨n4, hn_⟩ : ∃ n, n = w4.heap.size := ⟨_, rfl⟩; have HLn4 := Aside0.mk (show n3 ≤ n4 from Nat.le_trans HN.out (Nat.le_trans hb.size (Nat.le_of_eq hn_.symm))); have HV3 := Aside0.mk (Kd.R_mono (ok' := fun k => n3 ≤ k ∧ k < n4) (Kd.R_lower (Kd.R_bound ho0) (below_size (by repeat (first | (with_reducible first | exact HB.out | apply below_alloc | apply pw_below_drewN | apply below_drew1) | exact HB.out)))) (fun k hk => ⟨Nat.le_trans HN.out hk.2.1, by have := hk.2.2.1; omega⟩)); have HV02 := Aside0.mk (Kd.R_below (by (with_reducible repeat (first | apply Kd.R_alloc | apply Kd.R_drewN | apply Kd.R_drew)); exact HV0.out) hb); have HV12 := Aside0.mk (Kd.R_below (by (with_reducible repeat (first | apply Kd.R_alloc | apply Kd.R_drewN | apply Kd.R_drew)); exact HV1.out) hb); have HV22 := Aside0.mk (Kd.V_below (by (with_reducible repeat (first | apply Kd.V_alloc | apply Kd.V_drewN | apply Kd.V_drew)); exact HV2.out) hb); have HB2 := Aside0.mk (below_step (by repeat (first | (with_reducible first | exact HB.out | apply below_alloc | apply pw_below_drewN | apply below_drew1) | exact HB.out)) hb); have HN2_ := Aside0.mk (Nat.le_of_eq hn_); clear HB HN hb hn_ ho0 HV0 HV1 HV2; have HB := HB2; have HN := HN2_; have HV0 := HV02; have HV1 := HV12; have HV2 := HV22; clear HB2 HN2_ HV02 HV12 HV22; obtain ⟨B3, cc3, es_⟩ := Kd.R_slice HV3.out; subst es_))
 go_upto_region 8 with (first | ((with_reducible refine gate_callee (f := 5) rfl ?_); refine goesL_ (some 33) rfl rfl Try.func5 (by kernel_rfl) rfl #[.slice A1 l1.length c1] rfl (by (try simp only [List.map_toArray, List.map_cons, List.map_nil]); first | done | rfl | (simp only [List.length_drop, List.length_take]; rfl)) ?_; (with_reducible refine (laws_toIntS.calls kt1 _ _ l1 l1 _ ?side1 ?side2 AT1.out).mono ?_); (case side1 => exact (Kd.C_below HR1.out (by repeat (first | (with_reducible first | exact HB.out | apply below_alloc | apply pw_below_drewN | apply below_drew1) | exact HB.out)))); (case side2 => exact HC1.out); rintro e w5 ⟨vv0, rfl, ho0, hb⟩; refine ⟨_, rfl, ?_⟩; obtain ⟨n5, hn_⟩ : ∃ n, n = w5.heap.size := ⟨_, rfl⟩; have HLn5 := Aside0.mk (show n4 ≤ n5 from Nat.le_trans HN.out (Nat.le_trans hb.size (Nat.le_of_eq hn_.symm))); have HV4 := Aside0.mk (Kd.R_mono (ok' := fun k => n4 ≤ k ∧ k < n5) (Kd.R_lower (Kd.R_bound ho0) (below_size (by repeat (first | (with_reducible first | exact HB.out | apply below_alloc | apply pw_below_drewN | apply below_drew1) | exact HB.out)))) (fun k hk => ⟨Nat.le_trans HN.out hk.2.1, by have := hk.2.2.1; omega⟩)); have HV02 := Aside0.mk (Kd.R_below (by (with_reducible repeat (first | apply Kd.R_alloc | apply Kd.R_drewN | apply Kd.R_drew)); exact HV0.out) hb); have HV12 := Aside0.mk (Kd.R_below (by (with_reducible repeat (first | apply Kd.R_alloc | apply Kd.R_drewN | apply Kd.R_drew)); exact HV1.out) hb); have HV22 := Aside0.mk (Kd.V_below (by (with_reducible repeat (first | apply Kd.V_alloc | apply Kd.V_drewN | apply Kd.V_drew)); exact HV2.out) hb); have HV32 := Aside0.mk (Kd.R_below (by (with_reducible repeat (first | apply Kd.R_alloc | apply Kd.R_drewN | apply Kd.R_drew)); exact HV3.out) hb); have HB2 := Aside0.mk (below_step (by repeat (first | (with_reducible first | exact HB.out | apply below_alloc | apply pw_below_drewN | apply below_drew1) | exact HB.out)) hb); have HN2_ := Aside0.mk (Nat.le_of_eq hn_); clear HB HN hb hn_ ho0 HV0 HV1 HV2 HV3; have HB := HB2; have HN := HN2_; have HV0 := HV02; have HV1 := HV12; have HV2 := HV22; have HV3 := HV32; clear HB2 HN2_ HV02 HV12 HV22 HV32; obtain ⟨B4, cc4, es_⟩ := Kd.R_slice HV4.out; subst es_))
 go_upto_region 9 with (first | ((with_reducible refine gate_callee (f := 6) rfl ?_); refine goesL_ (some 37) rfl rfl Try.func6 (by kernel_rfl) rfl #[.slice B3 l0.length cc3, .slice B4 l1.length cc4] rfl (by (try simp only [List.map_toArray, List.map_cons, List.map_nil]); first | done | rfl | (simp only [List.length_drop, List.length_take]; rfl)) ?_; (with_reducible refine (impl_TableFor.calls kI _ _ l0 _ _ l1 L0 b _ ?side1 ?side2 ?side3 ?side4 AI.out).mono ?_); (case side1 => exact (Kd.R_reads' (by (with_reducible repeat (first | apply Kd.R_alloc | apply Kd.R_drewN | apply Kd.R_drew)); exact HV3.out)).2.2); (case side2 => exact (Kd.R_reads' HV3.out).2.1); (case side3 => exact (Kd.R_reads' (by (with_reducible repeat (first | apply Kd.R_alloc | apply Kd.R_drewN | apply Kd.R_drew)); exact HV4.out)).2.2); (case side4 => exact (Kd.R_reads' HV4.out).2.1); rintro e w6 ⟨vv0, rfl, ho0, hb⟩; refine ⟨_, rfl, ?_⟩; obtain ⟨n6, hn_⟩ : ∃ n, n = w6.heap.size := ⟨_, rfl⟩; have HLn6 := Aside0.mk (show n5 ≤ n6 from Nat.le_trans HN.out (Nat.le_trans hb.size (Nat.le_of_eq hn_.symm))); have HV5 := Aside0.mk (Kd.S_mono (ok' := fun k => n5 ≤ k ∧ k < n6) (Kd.S_lower (Kd.S_bound ho0) (below_size (by repeat (first | (with_reducible first | exact HB.out | apply below_alloc | apply pw_below_drewN | apply below_drew1) | exact HB.out)))) (fun k hk => ⟨Nat.le_trans HN.out hk.2.1, by have := hk.2.2.1; omega⟩)); have HV02 := Aside0.mk (Kd.R_below (by (with_reducible repeat (first | apply Kd.R_alloc | apply Kd.R_drewN | apply Kd.R_drew)); exact HV0.out) hb); have HV12 := Aside0.mk (Kd.R_below (by (with_reducible repeat (first | apply Kd.R_alloc | apply Kd.R_drewN | apply Kd.R_drew)); exact HV1.out) hb); have HV22 := Aside0.mk (Kd.V_below (by (with_reducible repeat (first | apply Kd.V_alloc | apply Kd.V_drewN | apply Kd.V_drew)); exact HV2.out) hb); have HV32 := Aside0.mk (Kd.R_below (by (with_reducible repeat (first | apply Kd.R_alloc | apply Kd.R_drewN | apply Kd.R_drew)); exact HV3.out) hb); have HV42 := Aside0.mk (Kd.R_below (by (with_reducible repeat (first | apply Kd.R_alloc | apply Kd.R_drewN | apply Kd.R_drew)); exact HV4.out) hb); have HB2 := Aside0.mk (below_step (by repeat (first | (with_reducible first | exact HB.out | apply below_alloc | apply pw_below_drewN | apply below_drew1) | exact HB.out)) hb); have HN2_ := Aside0.mk (Nat.le_of_eq hn_); clear HB HN hb hn_ ho0 HV0 HV1 HV2 HV3 HV4; have HB := HB2; have HN := HN2_; have HV0 := HV02; have HV1 := HV12; have HV2 := HV22; have HV3 := HV32; have HV4 := HV42; clear HB2 HN2_ HV02 HV12 HV22 HV32 HV42; obtain ⟨B5, cc5, es_⟩ := Kd.S_slice HV5.out; subst es_))
 go_upto_region 11 with (first | ((with_reducible refine gate_callee (f := 7) rfl ?_); refine goesL_ (some 42) rfl rfl Try.func7 (by kernel_rfl) rfl #[.slice B5 L0.length cc5, .slice B2 L0.length cc2] rfl (by (try simp only [List.map_toArray, List.map_cons, List.map_nil]); first | done | rfl | (simp only [List.length_drop, List.length_take]; rfl)) ?_; (with_reducible refine (laws_eqIntSS.calls kAE0 _ _ L0 _ _ L0 true _ ?side1 ?side2 ?side3 ?side4 AE0.out).mono ?_); (case side1 => exact (Kd.S_reads' (by (with_reducible repeat (first | apply Kd.S_alloc | apply Kd.S_drewN | apply Kd.S_drew)); exact HV5.out)).2.2); (case side2 => exact (Kd.S_reads' HV5.out).2.1); (case side3 => exact (Kd.V_reads' (by (with_reducible repeat (first | apply Kd.V_alloc | apply Kd.V_drewN | apply Kd.V_drew)); exact HV2.out)).2.2); (case side4 => exact (Kd.V_reads' HV2.out).2.1); rintro e w' ⟨rfl, ⟨nd, rfl⟩⟩; refine ⟨_, rfl, ?_⟩))
 go_upto_region 13 with (first | ((with_reducible refine gate_callee (f := 5) rfl ?_); refine goesL_ (some 51) rfl rfl Try.func5 (by kernel_rfl) rfl #[.slice A0 l0.length c0] rfl (by (try simp only [List.map_toArray, List.map_cons, List.map_nil]); first | done | rfl | (simp only [List.length_drop, List.length_take]; rfl)) ?_; (with_reducible refine (laws_toIntS.calls kt0 _ _ l0 l0 _ ?side1 ?side2 AT0.out).mono ?_); (case side1 => exact (Kd.C_below HR0.out (by repeat (first | (with_reducible first | exact HB.out | apply below_alloc | apply pw_below_drewN | apply below_drew1) | exact HB.out)))); (case side2 => exact HC0.out); rintro e w7 ⟨vv0, rfl, ho0, hb⟩; refine ⟨_, rfl, ?_⟩; obtain ⟨n7, hn_⟩ : ∃ n, n = w7.heap.size := ⟨_, rfl⟩; have HLn7 := Aside0.mk (show n6 ≤ n7 from Nat.le_trans HN.out (Nat.le_trans hb.size (Nat.le_of_eq hn_.symm))); have HV6 := Aside0.mk (Kd.R_mono (ok' := fun k => n6 ≤ k ∧ k < n7) (Kd.R_lower (Kd.R_bound ho0) (below_size (by repeat (first | (with_reducible first | exact HB.out | apply below_alloc | apply pw_below_drewN | apply below_drew1) | exact HB.out)))) (fun k hk => ⟨Nat.le_trans HN.out hk.2.1, by have := hk.2.2.1; omega⟩)); have HV02 := Aside0.mk (Kd.R_below (by (with_reducible repeat (first | apply Kd.R_alloc | apply Kd.R_drewN | apply Kd.R_drew)); exact HV0.out) hb); have HV12 := Aside0.mk (Kd.R_below (by (with_reducible repeat (first | apply Kd.R_alloc | apply Kd.R_drewN | apply Kd.R_drew)); exact HV1.out) hb); have HV22 := Aside0.mk (Kd.V_below (by (with_reducible repeat (first | apply Kd.V_alloc | apply Kd.V_drewN | apply Kd.V_drew)); exact HV2.out) hb); have HV32 := Aside0.mk (Kd.R_below (by (with_reducible repeat (first | apply Kd.R_alloc | apply Kd.R_drewN | apply Kd.R_drew)); exact HV3.out) hb); have HV42 := Aside0.mk (Kd.R_below (by (with_reducible repeat (first | apply Kd.R_alloc | apply Kd.R_drewN | apply Kd.R_drew)); exact HV4.out) hb); have HV52 := Aside0.mk (Kd.S_below (by (with_reducible repeat (first | apply Kd.S_alloc | apply Kd.S_drewN | apply Kd.S_drew)); exact HV5.out) hb); have HB2 := Aside0.mk (below_step (by repeat (first | (with_reducible first | exact HB.out | apply below_alloc | apply pw_below_drewN | apply below_drew1) | exact HB.out)) hb); have HN2_ := Aside0.mk (Nat.le_of_eq hn_); clear HB HN hb hn_ ho0 HV0 HV1 HV2 HV3 HV4 HV5; have HB := HB2; have HN := HN2_; have HV0 := HV02; have HV1 := HV12; have HV2 := HV22; have HV3 := HV32; have HV4 := HV42; have HV5 := HV52; clear HB2 HN2_ HV02 HV12 HV22 HV32 HV42 HV52; obtain ⟨B6, cc6, es_⟩ := Kd.R_slice HV6.out; subst es_) | ((with_reducible refine gate_callee (f := 8) rfl ?_); refine goesL_ (some 52) rfl rfl Try.func8 (by kernel_rfl) rfl #[.slice B3 l0.length cc3, .slice B6 l0.length cc6] rfl (by (try simp only [List.map_toArray, List.map_cons, List.map_nil]); first | done | rfl | (simp only [List.length_drop, List.length_take]; rfl)) ?_; (with_reducible refine (laws_eqIntS.calls kAE1 _ _ l0 _ _ l0 true _ ?side1 ?side2 ?side3 ?side4 AE1.out).mono ?_); (case side1 => exact (Kd.R_reads' (by (with_reducible repeat (first | apply Kd.R_alloc | apply Kd.R_drewN | apply Kd.R_drew)); exact HV3.out)).2.2); (case side2 => exact (Kd.R_reads' HV3.out).2.1); (case side3 => exact (Kd.R_reads' (by (with_reducible repeat (first | apply Kd.R_alloc | apply Kd.R_drewN | apply Kd.R_drew)); exact HV6.out)).2.2); (case side4 => exact (Kd.R_reads' HV6.out).2.1); rintro e w' ⟨rfl, ⟨nd, rfl⟩⟩; refine ⟨_, rfl, ?_⟩))
 go_upto_region 16 with (first | ((with_reducible refine gate_callee (f := 5) rfl ?_); refine goesL_ (some 56) rfl rfl Try.func5 (by kernel_rfl) rfl #[.slice A1 l1.length c1] rfl (by (try simp only [List.map_toArray, List.map_cons, List.map_nil]); first | done | rfl | (simp only [List.length_drop, List.length_take]; rfl)) ?_; (with_reducible refine (laws_toIntS.calls kt1 _ _ l1 l1 _ ?side1 ?side2 AT1.out).mono ?_); (case side1 => exact (Kd.C_below HR1.out (by repeat (first | (with_reducible first | exact HB.out | apply below_alloc | apply pw_below_drewN | apply below_drew1) | exact HB.out)))); (case side2 => exact HC1.out); rintro e w8 ⟨vv0, rfl, ho0, hb⟩; refine ⟨_, rfl, ?_⟩; obtain ⟨n8, hn_⟩ : ∃ n, n = w8.heap.size := ⟨_, rfl⟩; have HLn8 := Aside0.mk (show n7 ≤ n8 from Nat.le_trans HN.out (Nat.le_trans hb.size (Nat.le_of_eq hn_.symm))); have HV7 := Aside0.mk (Kd.R_mono (ok' := fun k => n7 ≤ k ∧ k < n8) (Kd.R_lower (Kd.R_bound ho0) (below_size (by repeat (first | (with_reducible first | exact HB.out | apply below_alloc | apply pw_below_drewN | apply below_drew1) | exact HB.out)))) (fun k hk => ⟨Nat.le_trans HN.out hk.2.1, by have := hk.2.2.1; omega⟩)); have HV02 := Aside0.mk (Kd.R_below (by (with_reducible repeat (first | apply Kd.R_alloc | apply Kd.R_drewN | apply Kd.R_drew)); exact HV0.out) hb); have HV12 := Aside0.mk (Kd.R_below (by (with_reducible repeat (first | apply Kd.R_alloc | apply Kd.R_drewN | apply Kd.R_drew)); exact HV1.out) hb); have HV22 := Aside0.mk (Kd.V_below (by (with_reducible repeat (first | apply Kd.V_alloc | apply Kd.V_drewN | apply Kd.V_drew)); exact HV2.out) hb); have HV32 := Aside0.mk (Kd.R_below (by (with_reducible repeat (first | apply Kd.R_alloc | apply Kd.R_drewN | apply Kd.R_drew)); exact HV3.out) hb); have HV42 := Aside0.mk (Kd.R_below (by (with_reducible repeat (first | apply Kd.R_alloc | apply Kd.R_drewN | apply Kd.R_drew)); exact HV4.out) hb); have HV52 := Aside0.mk (Kd.S_below (by (with_reducible repeat (first | apply Kd.S_alloc | apply Kd.S_drewN | apply Kd.S_drew)); exact HV5.out) hb); have HV62 := Aside0.mk (Kd.R_below (by (with_reducible repeat (first | apply Kd.R_alloc | apply Kd.R_drewN | apply Kd.R_drew)); exact HV6.out) hb); have HB2 := Aside0.mk (below_step (by repeat (first | (with_reducible first | exact HB.out | apply below_alloc | apply pw_below_drewN | apply below_drew1) | exact HB.out)) hb); have HN2_ := Aside0.mk (Nat.le_of_eq hn_); clear HB HN hb hn_ ho0 HV0 HV1 HV2 HV3 HV4 HV5 HV6; have HB := HB2; have HN := HN2_; have HV0 := HV02; have HV1 := HV12; have HV2 := HV22; have HV3 := HV32; have HV4 := HV42; have HV5 := HV52; have HV6 := HV62; clear HB2 HN2_ HV02 HV12 HV22 HV32 HV42 HV52 HV62; obtain ⟨B7, cc7, es_⟩ := Kd.R_slice HV7.out; subst es_) | ((with_reducible refine gate_callee (f := 8) rfl ?_); refine goesL_ (some 57) rfl rfl Try.func8 (by kernel_rfl) rfl #[.slice B4 l1.length cc4, .slice B7 l1.length cc7] rfl (by (try simp only [List.map_toArray, List.map_cons, List.map_nil]); first | done | rfl | (simp only [List.length_drop, List.length_take]; rfl)) ?_; (with_reducible refine (laws_eqIntS.calls kAE2 _ _ l1 _ _ l1 true _ ?side1 ?side2 ?side3 ?side4 AE2.out).mono ?_); (case side1 => exact (Kd.R_reads' (by (with_reducible repeat (first | apply Kd.R_alloc | apply Kd.R_drewN | apply Kd.R_drew)); exact HV4.out)).2.2); (case side2 => exact (Kd.R_reads' HV4.out).2.1); (case side3 => exact (Kd.R_reads' (by (with_reducible repeat (first | apply Kd.R_alloc | apply Kd.R_drewN | apply Kd.R_drew)); exact HV7.out)).2.2); (case side4 => exact (Kd.R_reads' HV7.out).2.1); rintro e w' ⟨rfl, ⟨nd, rfl⟩⟩; refine ⟨_, rfl, ?_⟩))
 go_upto_region 17 with (first | ((with_reducible refine gate_callee (f := 9) rfl ?_); refine goesL_ (some 61) rfl rfl Try.func9 (by kernel_rfl) rfl #[.slice B3 l0.length cc3, .int .i64 1] rfl (by (try simp only [List.map_toArray, List.map_cons, List.map_nil]); first | done | rfl | (simp only [List.length_drop, List.length_take]; rfl)) ?_; (with_reducible refine (laws_markIntS.calls kAK0 (fun k => n3 ≤ k ∧ k < n4) _ l0 1 T0 M0 W _ ?side1 ?side2 AK0.out).mono ?_); (case side1 => exact (by repeat (first | (with_reducible first | exact HB.out | apply below_alloc | apply pw_below_drewN | apply below_drew1) | exact HB.out))); (case side2 => exact (by (with_reducible repeat (first | apply Kd.R_alloc | apply Kd.R_drewN | apply Kd.R_drew)); exact HV3.out)); rintro e w9 ⟨rfl, ho, hb, hk⟩; refine ⟨_, rfl, ?_⟩; have HV02 := Aside0.mk (Kd.R_kept (by (with_reducible repeat (first | apply Kd.R_alloc | apply Kd.R_drewN | apply Kd.R_drew)); exact HV0.out) hk (fun k h1 h2 => by first | exact absurd h1.2.2 h2.2.2 | exact absurd h2.2.2 h1.2.2 | (obtain ⟨a1, a2⟩ := h1; obtain ⟨b1, b2⟩ := h2; have zn1 := HLn1.out; have zn2 := HLn2.out; have zn3 := HLn3.out; have zn4 := HLn4.out; have zn5 := HLn5.out; have zn6 := HLn6.out; have zn7 := HLn7.out; have zn8 := HLn8.out; omega))); have HV12 := Aside0.mk (Kd.R_kept (by (with_reducible repeat (first | apply Kd.R_alloc | apply Kd.R_drewN | apply Kd.R_drew)); exact HV1.out) hk (fun k h1 h2 => by first | exact absurd h1.2.2 h2.2.2 | exact absurd h2.2.2 h1.2.2 | (obtain ⟨a1, a2⟩ := h1; obtain ⟨b1, b2⟩ := h2; have zn1 := HLn1.out; have zn2 := HLn2.out; have zn3 := HLn3.out; have zn4 := HLn4.out; have zn5 := HLn5.out; have zn6 := HLn6.out; have zn7 := HLn7.out; have zn8 := HLn8.out; omega))); have HV22 := Aside0.mk (Kd.V_kept (by (with_reducible repeat (first | apply Kd.V_alloc | apply Kd.V_drewN | apply Kd.V_drew)); exact HV2.out) hk (fun k h1 h2 => by first | exact absurd h1.2.2 h2.2.2 | exact absurd h2.2.2 h1.2.2 | (obtain ⟨a1, a2⟩ := h1; obtain ⟨b1, b2⟩ := h2; have zn1 := HLn1.out; have zn2 := HLn2.out; have zn3 := HLn3.out; have zn4 := HLn4.out; have zn5 := HLn5.out; have zn6 := HLn6.out; have zn7 := HLn7.out; have zn8 := HLn8.out; omega))); have HV42 := Aside0.mk (Kd.R_kept (by (with_reducible repeat (first | apply Kd.R_alloc | apply Kd.R_drewN | apply Kd.R_drew)); exact HV4.out) hk (fun k h1 h2 => by first | exact absurd h1.2.2 h2.2.2 | exact absurd h2.2.2 h1.2.2 | (obtain ⟨a1, a2⟩ := h1; obtain ⟨b1, b2⟩ := h2; have zn1 := HLn1.out; have zn2 := HLn2.out; have zn3 := HLn3.out; have zn4 := HLn4.out; have zn5 := HLn5.out; have zn6 := HLn6.out; have zn7 := HLn7.out; have zn8 := HLn8.out; omega))); have HV52 := Aside0.mk (Kd.S_kept (by (with_reducible repeat (first | apply Kd.S_alloc | apply Kd.S_drewN | apply Kd.S_drew)); exact HV5.out) hk (fun k h1 h2 => by first | exact absurd h1.2.2 h2.2.2 | exact absurd h2.2.2 h1.2.2 | (obtain ⟨a1, a2⟩ := h1; obtain ⟨b1, b2⟩ := h2; have zn1 := HLn1.out; have zn2 := HLn2.out; have zn3 := HLn3.out; have zn4 := HLn4.out; have zn5 := HLn5.out; have zn6 := HLn6.out; have zn7 := HLn7.out; have zn8 := HLn8.out; omega))); have HV62 := Aside0.mk (Kd.R_kept (by (with_reducible repeat (first | apply Kd.R_alloc | apply Kd.R_drewN | apply Kd.R_drew)); exact HV6.out) hk (fun k h1 h2 => by first | exact absurd h1.2.2 h2.2.2 | exact absurd h2.2.2 h1.2.2 | (obtain ⟨a1, a2⟩ := h1; obtain ⟨b1, b2⟩ := h2; have zn1 := HLn1.out; have zn2 := HLn2.out; have zn3 := HLn3.out; have zn4 := HLn4.out; have zn5 := HLn5.out; have zn6 := HLn6.out; have zn7 := HLn7.out; have zn8 := HLn8.out; omega))); have HV72 := Aside0.mk (Kd.R_kept (by (with_reducible repeat (first | apply Kd.R_alloc | apply Kd.R_drewN | apply Kd.R_drew)); exact HV7.out) hk (fun k h1 h2 => by first | exact absurd h1.2.2 h2.2.2 | exact absurd h2.2.2 h1.2.2 | (obtain ⟨a1, a2⟩ := h1; obtain ⟨b1, b2⟩ := h2; have zn1 := HLn1.out; have zn2 := HLn2.out; have zn3 := HLn3.out; have zn4 := HLn4.out; have zn5 := HLn5.out; have zn6 := HLn6.out; have zn7 := HLn7.out; have zn8 := HLn8.out; omega))); have HO2_ := Aside0.mk ho; have HB2 := Aside0.mk hb; have HN2_ := Aside0.mk (Nat.le_trans HN.out hk.1); clear ho hb hk HB HN HV0 HV1 HV2 HV3 HV4 HV5 HV6 HV7; have HB := HB2; have HN := HN2_; have HV0 := HV02; have HV1 := HV12; have HV2 := HV22; have HV4 := HV42; have HV5 := HV52; have HV6 := HV62; have HV7 := HV72; clear HB2 HN2_ HO2_ HV02 HV12 HV22 HV42 HV52 HV62 HV72))
 go_upto_region 18 with (first | ((with_reducible refine gate_callee (f := 9) rfl ?_); refine goesL_ (some 64) rfl rfl Try.func9 (by kernel_rfl) rfl #[.slice B4 l1.length cc4, .int .i64 T0] rfl (by (try simp only [List.map_toArray, List.map_cons, List.map_nil]); first | done | rfl | (simp only [List.length_drop, List.length_take]; rfl)) ?_; (with_reducible refine (laws_markIntS.calls kAK1 (fun k => n4 ≤ k ∧ k < n5) _ l1 T0 T1 M1 W _ ?side1 ?side2 AK1.out).mono ?_); (case side1 => exact (by repeat (first | (with_reducible first | exact HB.out | apply below_alloc | apply pw_below_drewN | apply below_drew1) | exact HB.out))); (case side2 => exact (by (with_reducible repeat (first | apply Kd.R_alloc | apply Kd.R_drewN | apply Kd.R_drew)); exact HV4.out)); rintro e w10 ⟨rfl, ho, hb, hk⟩; refine ⟨_, rfl, ?_⟩; have HV02 := Aside0.mk (Kd.R_kept (by (with_reducible repeat (first | apply Kd.R_alloc | apply Kd.R_drewN | apply Kd.R_drew)); exact HV0.out) hk (fun k h1 h2 => by first | exact absurd h1.2.2 h2.2.2 | exact absurd h2.2.2 h1.2.2 | (obtain ⟨a1, a2⟩ := h1; obtain ⟨b1, b2⟩ := h2; have zn1 := HLn1.out; have zn2 := HLn2.out; have zn3 := HLn3.out; have zn4 := HLn4.out; have zn5 := HLn5.out; have zn6 := HLn6.out; have zn7 := HLn7.out; have zn8 := HLn8.out; omega))); have HV12 := Aside0.mk (Kd.R_kept (by (with_reducible repeat (first | apply Kd.R_alloc | apply Kd.R_drewN | apply Kd.R_drew)); exact HV1.out) hk (fun k h1 h2 => by first | exact absurd h1.2.2 h2.2.2 | exact absurd h2.2.2 h1.2.2 | (obtain ⟨a1, a2⟩ := h1; obtain ⟨b1, b2⟩ := h2; have zn1 := HLn1.out; have zn2 := HLn2.out; have zn3 := HLn3.out; have zn4 := HLn4.out; have zn5 := HLn5.out; have zn6 := HLn6.out; have zn7 := HLn7.out; have zn8 := HLn8.out; omega))); have HV22 := Aside0.mk (Kd.V_kept (by (with_reducible repeat (first | apply Kd.V_alloc | apply Kd.V_drewN | apply Kd.V_drew)); exact HV2.out) hk (fun k h1 h2 => by first | exact absurd h1.2.2 h2.2.2 | exact absurd h2.2.2 h1.2.2 | (obtain ⟨a1, a2⟩ := h1; obtain ⟨b1, b2⟩ := h2; have zn1 := HLn1.out; have zn2 := HLn2.out; have zn3 := HLn3.out; have zn4 := HLn4.out; have zn5 := HLn5.out; have zn6 := HLn6.out; have zn7 := HLn7.out; have zn8 := HLn8.out; omega))); have HV52 := Aside0.mk (Kd.S_kept (by (with_reducible repeat (first | apply Kd.S_alloc | apply Kd.S_drewN | apply Kd.S_drew)); exact HV5.out) hk (fun k h1 h2 => by first | exact absurd h1.2.2 h2.2.2 | exact absurd h2.2.2 h1.2.2 | (obtain ⟨a1, a2⟩ := h1; obtain ⟨b1, b2⟩ := h2; have zn1 := HLn1.out; have zn2 := HLn2.out; have zn3 := HLn3.out; have zn4 := HLn4.out; have zn5 := HLn5.out; have zn6 := HLn6.out; have zn7 := HLn7.out; have zn8 := HLn8.out; omega))); have HV62 := Aside0.mk (Kd.R_kept (by (with_reducible repeat (first | apply Kd.R_alloc | apply Kd.R_drewN | apply Kd.R_drew)); exact HV6.out) hk (fun k h1 h2 => by first | exact absurd h1.2.2 h2.2.2 | exact absurd h2.2.2 h1.2.2 | (obtain ⟨a1, a2⟩ := h1; obtain ⟨b1, b2⟩ := h2; have zn1 := HLn1.out; have zn2 := HLn2.out; have zn3 := HLn3.out; have zn4 := HLn4.out; have zn5 := HLn5.out; have zn6 := HLn6.out; have zn7 := HLn7.out; have zn8 := HLn8.out; omega))); have HV72 := Aside0.mk (Kd.R_kept (by (with_reducible repeat (first | apply Kd.R_alloc | apply Kd.R_drewN | apply Kd.R_drew)); exact HV7.out) hk (fun k h1 h2 => by first | exact absurd h1.2.2 h2.2.2 | exact absurd h2.2.2 h1.2.2 | (obtain ⟨a1, a2⟩ := h1; obtain ⟨b1, b2⟩ := h2; have zn1 := HLn1.out; have zn2 := HLn2.out; have zn3 := HLn3.out; have zn4 := HLn4.out; have zn5 := HLn5.out; have zn6 := HLn6.out; have zn7 := HLn7.out; have zn8 := HLn8.out; omega))); have HO2_ := Aside0.mk ho; have HB2 := Aside0.mk hb; have HN2_ := Aside0.mk (Nat.le_trans HN.out hk.1); clear ho hb hk HB HN HV0 HV1 HV2 HV4 HV5 HV6 HV7; have HB := HB2; have HN := HN2_; have HV0 := HV02; have HV1 := HV12; have HV2 := HV22; have HV5 := HV52; have HV6 := HV62; have HV7 := HV72; clear HB2 HN2_ HO2_ HV02 HV12 HV22 HV52 HV62 HV72))
 go_upto_region 21 with (first | (go_at_call 7; (with_reducible refine (laws_eqIntSS.calls kAE0 _ _ L0 _ _ L0 true _ ?side1 ?side2 ?side3 ?side4 AE0.out).mono ?_); (case side1 => exact (Kd.S_reads' (by (with_reducible repeat (first | apply Kd.S_alloc | apply Kd.S_drewN | apply Kd.S_drew)); exact HV5.out)).2.2); (case side2 => exact (Kd.S_reads' HV5.out).2.1); (case side3 => exact (Kd.V_reads' (by (with_reducible repeat (first | apply Kd.V_alloc | apply Kd.V_drewN | apply Kd.V_drew)); exact HV2.out)).2.2); (case side4 => exact (Kd.V_reads' HV2.out).2.1); rintro e w' ⟨rfl, ⟨nd, rfl⟩⟩))
 go_upto_region 23 with (first | ((with_reducible refine gate_callee (f := 10) rfl ?_); refine goesL_ (some 80) rfl rfl Try.func10 (by kernel_rfl) rfl #[.slice B5 L0.length cc5, .int .i64 1] rfl (by (try simp only [List.map_toArray, List.map_cons, List.map_nil]); first | done | rfl | (simp only [List.length_drop, List.length_take]; rfl)) ?_; (with_reducible refine (AK2.out _ W _ (fun k => n5 ≤ k ∧ k < n6) ?side1 ?side2).mono ?_); (case side1 => exact (by repeat (first | (with_reducible first | exact HB.out | apply below_alloc | apply pw_below_drewN | apply below_drew1) | exact HB.out))); (case side2 => exact (by (with_reducible repeat (first | apply Kd.S_alloc | apply Kd.S_drewN | apply Kd.S_drew)); exact HV5.out)); rintro e w11 ⟨rfl, ho, hb, hk⟩; refine ⟨_, rfl, ?_⟩; have HV02 := Aside0.mk (Kd.R_kept (by (with_reducible repeat (first | apply Kd.R_alloc | apply Kd.R_drewN | apply Kd.R_drew)); exact HV0.out) hk (fun k h1 h2 => by first | exact absurd h1.2.2 h2.2.2 | exact absurd h2.2.2 h1.2.2 | (obtain ⟨a1, a2⟩ := h1; obtain ⟨b1, b2⟩ := h2; have zn1 := HLn1.out; have zn2 := HLn2.out; have zn3 := HLn3.out; have zn4 := HLn4.out; have zn5 := HLn5.out; have zn6 := HLn6.out; have zn7 := HLn7.out; have zn8 := HLn8.out; omega))); have HV12 := Aside0.mk (Kd.R_kept (by (with_reducible repeat (first | apply Kd.R_alloc | apply Kd.R_drewN | apply Kd.R_drew)); exact HV1.out) hk (fun k h1 h2 => by first | exact absurd h1.2.2 h2.2.2 | exact absurd h2.2.2 h1.2.2 | (obtain ⟨a1, a2⟩ := h1; obtain ⟨b1, b2⟩ := h2; have zn1 := HLn1.out; have zn2 := HLn2.out; have zn3 := HLn3.out; have zn4 := HLn4.out; have zn5 := HLn5.out; have zn6 := HLn6.out; have zn7 := HLn7.out; have zn8 := HLn8.out; omega))); have HV22 := Aside0.mk (Kd.V_kept (by (with_reducible repeat (first | apply Kd.V_alloc | apply Kd.V_drewN | apply Kd.V_drew)); exact HV2.out) hk (fun k h1 h2 => by first | exact absurd h1.2.2 h2.2.2 | exact absurd h2.2.2 h1.2.2 | (obtain ⟨a1, a2⟩ := h1; obtain ⟨b1, b2⟩ := h2; have zn1 := HLn1.out; have zn2 := HLn2.out; have zn3 := HLn3.out; have zn4 := HLn4.out; have zn5 := HLn5.out; have zn6 := HLn6.out; have zn7 := HLn7.out; have zn8 := HLn8.out; omega))); have HV62 := Aside0.mk (Kd.R_kept (by (with_reducible repeat (first | apply Kd.R_alloc | apply Kd.R_drewN | apply Kd.R_drew)); exact HV6.out) hk (fun k h1 h2 => by first | exact absurd h1.2.2 h2.2.2 | exact absurd h2.2.2 h1.2.2 | (obtain ⟨a1, a2⟩ := h1; obtain ⟨b1, b2⟩ := h2; have zn1 := HLn1.out; have zn2 := HLn2.out; have zn3 := HLn3.out; have zn4 := HLn4.out; have zn5 := HLn5.out; have zn6 := HLn6.out; have zn7 := HLn7.out; have zn8 := HLn8.out; omega))); have HV72 := Aside0.mk (Kd.R_kept (by (with_reducible repeat (first | apply Kd.R_alloc | apply Kd.R_drewN | apply Kd.R_drew)); exact HV7.out) hk (fun k h1 h2 => by first | exact absurd h1.2.2 h2.2.2 | exact absurd h2.2.2 h1.2.2 | (obtain ⟨a1, a2⟩ := h1; obtain ⟨b1, b2⟩ := h2; have zn1 := HLn1.out; have zn2 := HLn2.out; have zn3 := HLn3.out; have zn4 := HLn4.out; have zn5 := HLn5.out; have zn6 := HLn6.out; have zn7 := HLn7.out; have zn8 := HLn8.out; omega))); have HO2_ := Aside0.mk ho; have HB2 := Aside0.mk hb; have HN2_ := Aside0.mk (Nat.le_trans HN.out hk.1); clear ho hb hk HB HN HV0 HV1 HV2 HV5 HV6 HV7; have HB := HB2; have HN := HN2_; have HV0 := HV02; have HV1 := HV12; have HV2 := HV22; have HV6 := HV62; have HV7 := HV72; have HV5 := HO2_; clear HB2 HN2_ HO2_ HV02 HV12 HV22 HV62 HV72))
 go_upto_region 28 with (first | ((with_reducible refine gate_callee (f := 11) rfl ?_); refine goesL_ (some 83) rfl rfl Try.func11 (by kernel_rfl) rfl #[.slice B5 L0.length cc5, .int .i64 1] rfl (by (try simp only [List.map_toArray, List.map_cons, List.map_nil]); first | done | rfl | (simp only [List.length_drop, List.length_take]; rfl)) ?_; (with_reducible refine (AH2.out B5 cc5 _ ?side1).mono ?_); (case side1 => exact ⟨_, (by (with_reducible repeat (first | apply Kd.S_alloc | apply Kd.S_drewN | apply Kd.S_drew)); exact HV5.out)⟩); rintro e w' ⟨rfl, ⟨nd, rfl⟩⟩; refine ⟨_, rfl, ?_⟩))
 go_upto_region 29 with (first | ((with_reducible refine gate_callee (f := 5) rfl ?_); refine goesL_ (some 91) rfl rfl Try.func5 (by kernel_rfl) rfl #[.slice A0 l0.length c0] rfl (by (try simp only [List.map_toArray, List.map_cons, List.map_nil]); first | done | rfl | (simp only [List.length_drop, List.length_take]; rfl)) ?_; (with_reducible refine (laws_toIntS.calls kt0 _ _ l0 l0 _ ?side1 ?side2 AT0.out).mono ?_); (case side1 => exact (Kd.C_below HR0.out (by repeat (first | (with_reducible first | exact HB.out | apply below_alloc | apply pw_below_drewN | apply below_drew1) | exact HB.out)))); (case side2 => exact HC0.out); rintro e w12 ⟨vv0, rfl, ho0, hb⟩; refine ⟨_, rfl, ?_⟩; obtain ⟨n9, hn_⟩ : ∃ n, n = w12.heap.size := ⟨_, rfl⟩; have HLn9 := Aside0.mk (show n8 ≤ n9 from Nat.le_trans HN.out (Nat.le_trans hb.size (Nat.le_of_eq hn_.symm))); have HV8 := Aside0.mk (Kd.R_mono (ok' := fun k => n8 ≤ k ∧ k < n9) (Kd.R_lower (Kd.R_bound ho0) (below_size (by repeat (first | (with_reducible first | exact HB.out | apply below_alloc | apply pw_below_drewN | apply below_drew1) | exact HB.out)))) (fun k hk => ⟨Nat.le_trans HN.out hk.2.1, by have := hk.2.2.1; omega⟩)); have HV02 := Aside0.mk (Kd.R_below (by (with_reducible repeat (first | apply Kd.R_alloc | apply Kd.R_drewN | apply Kd.R_drew)); exact HV0.out) hb); have HV12 := Aside0.mk (Kd.R_below (by (with_reducible repeat (first | apply Kd.R_alloc | apply Kd.R_drewN | apply Kd.R_drew)); exact HV1.out) hb); have HV22 := Aside0.mk (Kd.V_below (by (with_reducible repeat (first | apply Kd.V_alloc | apply Kd.V_drewN | apply Kd.V_drew)); exact HV2.out) hb); have HV52 := Aside0.mk (Kd.S_below (by (with_reducible repeat (first | apply Kd.S_alloc | apply Kd.S_drewN | apply Kd.S_drew)); exact HV5.out) hb); have HV62 := Aside0.mk (Kd.R_below (by (with_reducible repeat (first | apply Kd.R_alloc | apply Kd.R_drewN | apply Kd.R_drew)); exact HV6.out) hb); have HV72 := Aside0.mk (Kd.R_below (by (with_reducible repeat (first | apply Kd.R_alloc | apply Kd.R_drewN | apply Kd.R_drew)); exact HV7.out) hb); have HB2 := Aside0.mk (below_step (by repeat (first | (with_reducible first | exact HB.out | apply below_alloc | apply pw_below_drewN | apply below_drew1) | exact HB.out)) hb); have HN2_ := Aside0.mk (Nat.le_of_eq hn_); clear HB HN hb hn_ ho0 HV0 HV1 HV2 HV5 HV6 HV7; have HB := HB2; have HN := HN2_; have HV0 := HV02; have HV1 := HV12; have HV2 := HV22; have HV5 := HV52; have HV6 := HV62; have HV7 := HV72; clear HB2 HN2_ HV02 HV12 HV22 HV52 HV62 HV72; obtain ⟨B8, cc8, es_⟩ := Kd.R_slice HV8.out; subst es_) | ((with_reducible refine gate_callee (f := 5) rfl ?_); refine goesL_ (some 93) rfl rfl Try.func5 (by kernel_rfl) rfl #[.slice A1 l1.length c1] rfl (by (try simp only [List.map_toArray, List.map_cons, List.map_nil]); first | done | rfl | (simp only [List.length_drop, List.length_take]; rfl)) ?_; (with_reducible refine (laws_toIntS.calls kt1 _ _ l1 l1 _ ?side1 ?side2 AT1.out).mono ?_); (case side1 => exact (Kd.C_below HR1.out (by repeat (first | (with_reducible first | exact HB.out | apply below_alloc | apply pw_below_drewN | apply below_drew1) | exact HB.out)))); (case side2 => exact HC1.out); rintro e w13 ⟨vv0, rfl, ho0, hb⟩; refine ⟨_, rfl, ?_⟩; obtain ⟨n10, hn_⟩ : ∃ n, n = w13.heap.size := ⟨_, rfl⟩; have HLn10 := Aside0.mk (show n9 ≤ n10 from Nat.le_trans HN.out (Nat.le_trans hb.size (Nat.le_of_eq hn_.symm))); have HV9 := Aside0.mk (Kd.R_mono (ok' := fun k => n9 ≤ k ∧ k < n10) (Kd.R_lower (Kd.R_bound ho0) (below_size (by repeat (first | (with_reducible first | exact HB.out | apply below_alloc | apply pw_below_drewN | apply below_drew1) | exact HB.out)))) (fun k hk => ⟨Nat.le_trans HN.out hk.2.1, by have := hk.2.2.1; omega⟩)); have HV02 := Aside0.mk (Kd.R_below (by (with_reducible repeat (first | apply Kd.R_alloc | apply Kd.R_drewN | apply Kd.R_drew)); exact HV0.out) hb); have HV12 := Aside0.mk (Kd.R_below (by (with_reducible repeat (first | apply Kd.R_alloc | apply Kd.R_drewN | apply Kd.R_drew)); exact HV1.out) hb); have HV22 := Aside0.mk (Kd.V_below (by (with_reducible repeat (first | apply Kd.V_alloc | apply Kd.V_drewN | apply Kd.V_drew)); exact HV2.out) hb); have HV52 := Aside0.mk (Kd.S_below (by (with_reducible repeat (first | apply Kd.S_alloc | apply Kd.S_drewN | apply Kd.S_drew)); exact HV5.out) hb); have HV62 := Aside0.mk (Kd.R_below (by (with_reducible repeat (first | apply Kd.R_alloc | apply Kd.R_drewN | apply Kd.R_drew)); exact HV6.out) hb); have HV72 := Aside0.mk (Kd.R_below (by (with_reducible repeat (first | apply Kd.R_alloc | apply Kd.R_drewN | apply Kd.R_drew)); exact HV7.out) hb); have HV82 := Aside0.mk (Kd.R_below (by (with_reducible repeat (first | apply Kd.R_alloc | apply Kd.R_drewN | apply Kd.R_drew)); exact HV8.out) hb); have HB2 := Aside0.mk (below_step (by repeat (first | (with_reducible first | exact HB.out | apply below_alloc | apply pw_below_drewN | apply below_drew1) | exact HB.out)) hb); have HN2_ := Aside0.mk (Nat.le_of_eq hn_); clear HB HN hb hn_ ho0 HV0 HV1 HV2 HV5 HV6 HV7 HV8; have HB := HB2; have HN := HN2_; have HV0 := HV02; have HV1 := HV12; have HV2 := HV22; have HV5 := HV52; have HV6 := HV62; have HV7 := HV72; have HV8 := HV82; clear HB2 HN2_ HV02 HV12 HV22 HV52 HV62 HV72 HV82; obtain ⟨B9, cc9, es_⟩ := Kd.R_slice HV9.out; subst es_) | ((with_reducible refine gate_callee (f := 6) rfl ?_); refine goesL_ (some 94) rfl rfl Try.func6 (by kernel_rfl) rfl #[.slice B8 l0.length cc8, .slice B9 l1.length cc9] rfl (by (try simp only [List.map_toArray, List.map_cons, List.map_nil]); first | done | rfl | (simp only [List.length_drop, List.length_take]; rfl)) ?_; (with_reducible refine (impl_TableFor.calls kI _ _ l0 _ _ l1 L0 b _ ?side1 ?side2 ?side3 ?side4 AI.out).mono ?_); (case side1 => exact (Kd.R_reads' (by (with_reducible repeat (first | apply Kd.R_alloc | apply Kd.R_drewN | apply Kd.R_drew)); exact HV8.out)).2.2); (case side2 => exact (Kd.R_reads' HV8.out).2.1); (case side3 => exact (Kd.R_reads' (by (with_reducible repeat (first | apply Kd.R_alloc | apply Kd.R_drewN | apply Kd.R_drew)); exact HV9.out)).2.2); (case side4 => exact (Kd.R_reads' HV9.out).2.1); rintro e w14 ⟨vv0, rfl, ho0, hb⟩; refine ⟨_, rfl, ?_⟩; obtain ⟨n11, hn_⟩ : ∃ n, n = w14.heap.size := ⟨_, rfl⟩; have HLn11 := Aside0.mk (show n10 ≤ n11 from Nat.le_trans HN.out (Nat.le_trans hb.size (Nat.le_of_eq hn_.symm))); have HV10 := Aside0.mk (Kd.S_mono (ok' := fun k => n10 ≤ k ∧ k < n11) (Kd.S_lower (Kd.S_bound ho0) (below_size (by repeat (first | (with_reducible first | exact HB.out | apply below_alloc | apply pw_below_drewN | apply below_drew1) | exact HB.out)))) (fun k hk => ⟨Nat.le_trans HN.out hk.2.1, by have := hk.2.2.1; omega⟩)); have HV02 := Aside0.mk (Kd.R_below (by (with_reducible repeat (first | apply Kd.R_alloc | apply Kd.R_drewN | apply Kd.R_drew)); exact HV0.out) hb); have HV12 := Aside0.mk (Kd.R_below (by (with_reducible repeat (first | apply Kd.R_alloc | apply Kd.R_drewN | apply Kd.R_drew)); exact HV1.out) hb); have HV22 := Aside0.mk (Kd.V_below (by (with_reducible repeat (first | apply Kd.V_alloc | apply Kd.V_drewN | apply Kd.V_drew)); exact HV2.out) hb); have HV52 := Aside0.mk (Kd.S_below (by (with_reducible repeat (first | apply Kd.S_alloc | apply Kd.S_drewN | apply Kd.S_drew)); exact HV5.out) hb); have HV62 := Aside0.mk (Kd.R_below (by (with_reducible repeat (first | apply Kd.R_alloc | apply Kd.R_drewN | apply Kd.R_drew)); exact HV6.out) hb); have HV72 := Aside0.mk (Kd.R_below (by (with_reducible repeat (first | apply Kd.R_alloc | apply Kd.R_drewN | apply Kd.R_drew)); exact HV7.out) hb); have HV82 := Aside0.mk (Kd.R_below (by (with_reducible repeat (first | apply Kd.R_alloc | apply Kd.R_drewN | apply Kd.R_drew)); exact HV8.out) hb); have HV92 := Aside0.mk (Kd.R_below (by (with_reducible repeat (first | apply Kd.R_alloc | apply Kd.R_drewN | apply Kd.R_drew)); exact HV9.out) hb); have HB2 := Aside0.mk (below_step (by repeat (first | (with_reducible first | exact HB.out | apply below_alloc | apply pw_below_drewN | apply below_drew1) | exact HB.out)) hb); have HN2_ := Aside0.mk (Nat.le_of_eq hn_); clear HB HN hb hn_ ho0 HV0 HV1 HV2 HV5 HV6 HV7 HV8 HV9; have HB := HB2; have HN := HN2_; have HV0 := HV02; have HV1 := HV12; have HV2 := HV22; have HV5 := HV52; have HV6 := HV62; have HV7 := HV72; have HV8 := HV82; have HV9 := HV92; clear HB2 HN2_ HV02 HV12 HV22 HV52 HV62 HV72 HV82 HV92; obtain ⟨B10, cc10, es_⟩ := Kd.S_slice HV10.out; subst es_))
 go_upto_region 32 with (first | ((with_reducible refine gate_callee (f := 7) rfl ?_); refine goesL_ (some 99) rfl rfl Try.func7 (by kernel_rfl) rfl #[.slice B10 L0.length cc10, .slice B2 L0.length cc2] rfl (by (try simp only [List.map_toArray, List.map_cons, List.map_nil]); first | done | rfl | (simp only [List.length_drop, List.length_take]; rfl)) ?_; (with_reducible refine (laws_eqIntSS.calls kAE0 _ _ L0 _ _ L0 true _ ?side1 ?side2 ?side3 ?side4 AE0.out).mono ?_); (case side1 => exact (Kd.S_reads' (by (with_reducible repeat (first | apply Kd.S_alloc | apply Kd.S_drewN | apply Kd.S_drew)); exact HV10.out)).2.2); (case side2 => exact (Kd.S_reads' HV10.out).2.1); (case side3 => exact (Kd.V_reads' (by (with_reducible repeat (first | apply Kd.V_alloc | apply Kd.V_drewN | apply Kd.V_drew)); exact HV2.out)).2.2); (case side4 => exact (Kd.V_reads' HV2.out).2.1); rintro e w' ⟨rfl, ⟨nd, rfl⟩⟩; refine ⟨_, rfl, ?_⟩))
 go_wp2_with (first | ((with_reducible refine gate_callee (f := 11) rfl ?_); refine goesL_ (some 108) rfl rfl Try.func11 (by kernel_rfl) rfl #[.slice B5 L0.length cc5, .int .i64 1] rfl (by (try simp only [List.map_toArray, List.map_cons, List.map_nil]); first | done | rfl | (simp only [List.length_drop, List.length_take]; rfl)) ?_; (with_reducible refine (AH2.out B5 cc5 _ ?side1).mono ?_); (case side1 => exact ⟨_, (by (with_reducible repeat (first | apply Kd.S_alloc | apply Kd.S_drewN | apply Kd.S_drew)); exact HV5.out)⟩); rintro e w' ⟨rfl, ⟨nd, rfl⟩⟩; refine ⟨_, rfl, ?_⟩))
 go_ret
 exact ⟨rfl, (by repeat (first | (with_reducible first | exact HB.out | apply below_alloc | apply pw_below_drewN | apply below_drew1) | exact HB.out))⟩
end Go.Proofs.Ytmfpgimblifleaa.A

/- What came in as a slice, opened and read in the words of rows. -/
namespace Go.Proofs.Ytmfpgimblifleaa.A
open Go.RowKit Go.Proofs.YtmfpgimblifleaaW.PrintWords Go.Proofs.YtmfpgimblifleaaW.PrintLast Go.Proofs.YtmfpgimblifleaaW.PrintMore
attribute [local go_sem] max2_int min2_int max_two min_two max_three min_three max_four min_four
set_option linter.unusedVariables false
set_option linter.unusedSimpArgs false

open Go.ChangeShapes Go.WideShapes Go.ChangeAt Go.Deep
theorem row_ints {H : Type} {enc : TypeId × Value → H} {P : Program} {W : World} {base : Nat} {held : Bool} {t e : TypeId} {a : Option Addr} {len cap : Nat} {d : DataW H} {ps : List MemPlace}
 (ht : P.underlying t = some (.slice e)) (he : P.underlying e = some (.int .i64)) (hC : P.cellsOf e = 1) (h : DataW.Trod enc P W base (fun _ => true) held t (.slice a len cap) d ps) :
 ∃ l : List Int, len = l.length ∧ Kd.C (Kd.int .i64) W a l.length l ∧ l.length ≤ maxLen ∧ (∀ x ∈ l, (Lit.int .i64 x).wf = true) ∧ l.length ≤ cap := by
 have w0 : (a = none ∧ len = 0 ∧ cap = 0 ∧ ∃ z : List Int, z = []) ∨ ∃ z : List Int, ∃ x, a = some x ∧ len ≤ cap ∧ cap ≤ maxLen ∧ z.length = cap ∧ (∀ i, i < z.length → W.cell? (x.add i) = some (.int .i64 (z.getD i 0))) ∧ ∀ n ∈ z, (Lit.int .i64 n).wf = true := by
  obtain ⟨fuel, hf⟩ := h
  rcases open_ints ht he hC hf with ⟨hcs, _⟩ | ⟨x, l, c, zs, hcs, _, hl, hm, hz, _, hcell, hwz⟩
  · simp [Value.cells] at hcs
    obtain ⟨rfl, rfl, rfl⟩ := hcs
    exact .inl ⟨rfl, rfl, rfl, [], rfl⟩
  · simp [Value.cells] at hcs
    obtain ⟨rfl, rfl, rfl⟩ := hcs
    exact .inr ⟨zs, _, rfl, hl, hm, by simpa using hz, hcell, hwz⟩
 rcases w0 with ⟨rfl, rfl, rfl, _⟩ | ⟨z, x, rfl, hl, hm, hz, hcell, hw⟩
 · obtain ⟨l, hlen, hr, hm, hw, hc⟩ := ReadsInt.ofRowC (k := .i64) (w := W) (a := none) (len := 0) (cap := 0) (zs := []) (.inl ⟨rfl, rfl, rfl, rfl⟩)
   exact ⟨l, hlen, Kd.C_of_reads (d := (0 : Int)) (h1 := fun _ => rfl) hr, hm, hw, hc⟩
 · obtain ⟨l, hlen, hr, hm, hw, hc⟩ := ReadsInt.ofRowC (k := .i64) (w := W) (a := some x) (len := len) (cap := cap) (zs := z) (.inr ⟨x, rfl, hl, hm, hz, hcell, hw⟩)
   exact ⟨l, hlen, Kd.C_of_reads (d := (0 : Int)) (h1 := fun _ => rfl) hr, hm, hw, hc⟩
end Go.Proofs.Ytmfpgimblifleaa.A
