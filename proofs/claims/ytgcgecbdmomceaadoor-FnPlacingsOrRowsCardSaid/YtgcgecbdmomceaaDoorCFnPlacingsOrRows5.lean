/- What the law FnPlacingsOrRows reaches, part 5: Lean functions with the same answers as the Go functions, the proofs that the Go code comes to these answers, and lemmas about them; no condition beyond those that each theorem names. -/
import Derived.Test.YtgcgecbdmomceaaDoorCFnPlacingsOrRowsw1
import Derived.Test.YtgcgecbdmomceaaDoorCFnPlacingsOrRows1
import Derived.Test.YtgcgecbdmomceaaDoorCFnPlacingsOrRows2
import Derived.Test.YtgcgecbdmomceaaDoorCFnPlacingsOrRows3
import Derived.Test.YtgcgecbdmomceaaDoorCFnPlacingsOrRows4
namespace Go.Proofs.YtgcgecbdmomceaaDoor.A
open Go.RowKit Go.Proofs.YtgcgecbdmomceaaDoorW.PrintWords Go.Proofs.YtgcgecbdmomceaaDoorW.PrintLast Go.Proofs.YtgcgecbdmomceaaDoorW.PrintMore
set_option linter.unusedVariables false
set_option linter.unusedSimpArgs false
/-! Hall's theorem over the numbers below n: sets are functions to Bool -/
def cardB (n : Nat) (S : Nat → Bool) : Nat := (List.range n).countP S
theorem countP_sub {α : Type} (A B D : α → Bool) : ∀ l : List α, (∀ x ∈ l, A x = true → B x = true ∨ D x = true) → l.countP A ≤ l.countP B + l.countP D
 | [], _ => by simp
 | x :: l, h => by
  have ih := countP_sub A B D l (fun y hy => h y (List.mem_cons_of_mem _ hy))
  have hx := h x List.mem_cons_self
  rw [List.countP_cons, List.countP_cons, List.countP_cons]
  cases hA : A x with
  | false => simp only [Bool.false_eq_true, if_false]; omega
  | true =>
   rcases hx hA with hB | hD
   · rw [hB]; simp only [if_true]; omega
   · rw [hD]; simp only [if_true]; omega
theorem countP_two {α : Type} (A B D : α → Bool) : ∀ l : List α, (∀ x ∈ l, B x = true → A x = true ∧ D x = false) → (∀ x ∈ l, D x = true → A x = true) → l.countP B + l.countP D ≤ l.countP A
 | [], _, _ => by simp
 | x :: l, h, k => by
  have ih := countP_two A B D l (fun y hy => h y (List.mem_cons_of_mem _ hy)) (fun y hy => k y (List.mem_cons_of_mem _ hy))
  have hx := h x List.mem_cons_self
  have kx := k x List.mem_cons_self
  rw [List.countP_cons, List.countP_cons, List.countP_cons]
  cases hB : B x with
  | true =>
   obtain ⟨h1, h2⟩ := hx hB
   rw [h1, h2]
   simp only [if_true, Bool.false_eq_true, if_false]
   omega
  | false =>
   cases hD : D x with
   | true =>
    rw [kx hD]
    simp only [if_true, Bool.false_eq_true, if_false]
    omega
   | false =>
    simp only [Bool.false_eq_true, if_false]
    omega
theorem cardB_pos {n : Nat} {S : Nat → Bool} {i : Nat} (hi : i < n) (h : S i = true) : 0 < cardB n S := by
 unfold cardB
 rw [List.countP_pos_iff]
 exact ⟨i, List.mem_range.2 hi, h⟩
theorem cardB_ex {n : Nat} {S : Nat → Bool} (h : 0 < cardB n S) : ∃ i, i < n ∧ S i = true := by
 unfold cardB at h
 rw [List.countP_pos_iff] at h
 obtain ⟨i, hi, hs⟩ := h
 exact ⟨i, List.mem_range.1 hi, hs⟩
theorem cardB_one (n c : Nat) : cardB n (fun j => j == c) ≤ 1 := by
 have h := List.nodup_iff_count.1 (List.nodup_range (n := n)) c
 exact h
theorem cardB_le {n : Nat} {A B : Nat → Bool} (h : ∀ i, i < n → A i = true → B i = true) : cardB n A ≤ cardB n B := List.countP_mono_left fun i hi ha => h i (List.mem_range.1 hi) ha
def nbr (n : Nat) (P : Nat → Nat → Bool) (C S : Nat → Bool) (j : Nat) : Bool := C j && (List.range n).any fun i => S i && P i j
theorem nbr_iff {n : Nat} {P : Nat → Nat → Bool} {C S : Nat → Bool} {j : Nat} : nbr n P C S j = true ↔ C j = true ∧ ∃ i, i < n ∧ S i = true ∧ P i j = true := by
 unfold nbr
 simp only [Bool.and_eq_true, List.any_eq_true, List.mem_range]
theorem hall (n : Nat) (P : Nat → Nat → Bool) : ∀ (m : Nat) (R C : Nat → Bool), cardB n R ≤ m → (∀ S : Nat → Bool, (∀ i, i < n → S i = true → R i = true) → cardB n S ≤ cardB n (nbr n P C S)) → ∃ f : Nat → Nat, (∀ i, i < n → R i = true → f i < n ∧ C (f i) = true ∧ P i (f i) = true) ∧ ∀ i j, i < n → j < n → R i = true → R j = true → f i = f j → i = j
 | 0, R, C, hR, _ => by
  have hno : ∀ i, i < n → R i = true → False := fun i hi h => by have := cardB_pos hi h; omega
  exact ⟨id, fun i hi h => (hno i hi h).elim, fun i j hi _ h _ _ => (hno i hi h).elim⟩
 | m + 1, R, C, hR, hH => by
  by_cases hex : 0 < cardB n R
  · obtain ⟨r, hr, hRr⟩ := cardB_ex hex
    by_cases hB : ∃ S : Nat → Bool, (∀ i, i < n → S i = true → R i = true) ∧ 0 < cardB n S ∧ cardB n S < cardB n R ∧ cardB n (nbr n P C S) ≤ cardB n S
    · obtain ⟨S, hS, h0, h1, h2⟩ := hB
      obtain ⟨f1, a1, b1⟩ := hall n P m S C (by omega) (fun T hT => hH T (fun i hi h => hS i hi (hT i hi h)))
      have hsplit : cardB n (fun i => R i && !S i) + cardB n S ≤ cardB n R := countP_two R (fun i => R i && !S i) S (List.range n) (fun i _ h => by simp only [Bool.and_eq_true, Bool.not_eq_true'] at h; exact h) (fun i hi h => hS i (List.mem_range.1 hi) h)
      obtain ⟨f2, a2, b2⟩ := hall n P m (fun i => R i && !S i) (fun j => C j && !nbr n P C S j) (by omega) (fun T hT => by
       have hT' : ∀ i, i < n → T i = true → R i = true ∧ S i = false := fun i hi h => by have := hT i hi h; simp only [Bool.and_eq_true, Bool.not_eq_true'] at this; exact this
       have e1 : cardB n T + cardB n S ≤ cardB n (fun i => T i || S i) := countP_two (fun i => T i || S i) T S (List.range n) (fun i hi h => ⟨by simp [h], (hT' i (List.mem_range.1 hi) h).2⟩) (fun i _ h => by simp [h])
       have e2 := hH (fun i => T i || S i) (fun i hi h => by
        simp only [Bool.or_eq_true] at h
        rcases h with h | h
        · exact (hT' i hi h).1
        · exact hS i hi h)
       have e3 : cardB n (nbr n P C (fun i => T i || S i)) ≤ cardB n (nbr n P (fun j => C j && !nbr n P C S j) T) + cardB n (nbr n P C S) := countP_sub _ _ _ (List.range n) (fun j _ h => by
        obtain ⟨hc, i, hi, hs, hp⟩ := nbr_iff.1 h
        by_cases hn : nbr n P C S j = true
        · exact .inr hn
        · refine .inl (nbr_iff.2 ⟨by simp only [Bool.and_eq_true, Bool.not_eq_true']; exact ⟨hc, by simpa using hn⟩, i, hi, ?_, hp⟩)
          simp only [Bool.or_eq_true] at hs
          rcases hs with hs | hs
          · exact hs
          · exact (hn (nbr_iff.2 ⟨hc, i, hi, hs, hp⟩)).elim)
       omega)
      have q1 : ∀ i, i < n → S i = true → nbr n P C S (f1 i) = true := fun i hi h => by
       obtain ⟨_, hc, hp⟩ := a1 i hi h
       exact nbr_iff.2 ⟨hc, i, hi, h, hp⟩
      have q2 : ∀ i, i < n → R i = true → ¬ S i = true → f2 i < n ∧ C (f2 i) = true ∧ nbr n P C S (f2 i) = false ∧ P i (f2 i) = true := fun i hi h hs => by
       obtain ⟨u, v, w⟩ := a2 i hi (by simp only [Bool.and_eq_true, Bool.not_eq_true']; exact ⟨h, by simpa using hs⟩)
       simp only [Bool.and_eq_true, Bool.not_eq_true'] at v
       exact ⟨u, v.1, v.2, w⟩
      refine ⟨fun i => if S i = true then f1 i else f2 i, fun i hi h => ?_, fun i j hi hj h k e => ?_⟩
      · show (if S i = true then f1 i else f2 i) < n ∧ C (if S i = true then f1 i else f2 i) = true ∧ P i (if S i = true then f1 i else f2 i) = true
        by_cases hs : S i = true
        · rw [if_pos hs]
          exact a1 i hi hs
        · rw [if_neg hs]
          obtain ⟨u, v, _, w⟩ := q2 i hi h hs
          exact ⟨u, v, w⟩
      · simp only at e
        by_cases hs : S i = true
        · by_cases ht : S j = true
          · rw [if_pos hs, if_pos ht] at e
            exact b1 i j hi hj hs ht e
          · rw [if_pos hs, if_neg ht] at e
            have x1 := q1 i hi hs
            have x2 := (q2 j hj k ht).2.2.1
            rw [e, x2] at x1
            cases x1
        · by_cases ht : S j = true
          · rw [if_neg hs, if_pos ht] at e
            have x1 := q1 j hj ht
            have x2 := (q2 i hi h hs).2.2.1
            rw [← e, x2] at x1
            cases x1
          · rw [if_neg hs, if_neg ht] at e
            exact b2 i j hi hj (by simp only [Bool.and_eq_true, Bool.not_eq_true']; exact ⟨h, by simpa using hs⟩) (by simp only [Bool.and_eq_true, Bool.not_eq_true']; exact ⟨k, by simpa using ht⟩) e
    · have hA : ∀ T : Nat → Bool, (∀ i, i < n → T i = true → R i = true) → 0 < cardB n T → cardB n T < cardB n R → cardB n T + 1 ≤ cardB n (nbr n P C T) := fun T h1 h2 h3 => by
       have : ¬ cardB n (nbr n P C T) ≤ cardB n T := fun h4 => hB ⟨T, h1, h2, h3, h4⟩
       omega
      have hs1 : 0 < cardB n (fun i => i == r) := cardB_pos hr (by simp)
      have hN := hH (fun i => i == r) (fun i _ h => by
       have e : i = r := by simpa using h
       rw [e]
       exact hRr)
      obtain ⟨c, hc, hnc⟩ := cardB_ex (show 0 < cardB n (nbr n P C (fun i => i == r)) by omega)
      obtain ⟨hCc, i0, _, hi0, hP⟩ := nbr_iff.1 hnc
      have ei0 : i0 = r := by simpa using hi0
      subst ei0
      have hsplit : cardB n (fun i => R i && !(i == i0)) + cardB n (fun i => i == i0) ≤ cardB n R := countP_two R (fun i => R i && !(i == i0)) (fun i => i == i0) (List.range n) (fun i _ h => by simp only [Bool.and_eq_true, Bool.not_eq_true'] at h; exact h) (fun i _ h => by
       have e : i = i0 := by simpa using h
       rw [e]
       exact hRr)
      obtain ⟨f1, a1, b1⟩ := hall n P m (fun i => R i && !(i == i0)) (fun j => C j && !(j == c)) (by omega) (fun T hT => by
       by_cases ht0 : 0 < cardB n T
       · have hTR : ∀ i, i < n → T i = true → R i = true := fun i hi h => by have := hT i hi h; simp only [Bool.and_eq_true] at this; exact this.1
         have hle : cardB n T ≤ cardB n (fun i => R i && !(i == i0)) := cardB_le hT
         have g := hA T hTR ht0 (by omega)
         have e3 : cardB n (nbr n P C T) ≤ cardB n (nbr n P (fun j => C j && !(j == c)) T) + cardB n (fun j => j == c) := countP_sub _ _ _ (List.range n) (fun j _ h => by
          obtain ⟨hcj, i, hi, hs, hp⟩ := nbr_iff.1 h
          by_cases e : j = c
          · exact .inr (by simpa using e)
          · exact .inl (nbr_iff.2 ⟨by simp only [Bool.and_eq_true, Bool.not_eq_true']; exact ⟨hcj, by simpa using e⟩, i, hi, hs, hp⟩))
         have := cardB_one n c
         omega
       · omega)
      have q : ∀ i, i < n → R i = true → i ≠ i0 → f1 i < n ∧ C (f1 i) = true ∧ f1 i ≠ c ∧ P i (f1 i) = true := fun i hi h hne => by
       obtain ⟨u, v, w⟩ := a1 i hi (by simp only [Bool.and_eq_true, Bool.not_eq_true']; exact ⟨h, by simpa using hne⟩)
       simp only [Bool.and_eq_true, Bool.not_eq_true'] at v
       exact ⟨u, v.1, by simpa using v.2, w⟩
      refine ⟨fun i => if i = i0 then c else f1 i, fun i hi h => ?_, fun i j hi hj h k e => ?_⟩
      · show (if i = i0 then c else f1 i) < n ∧ C (if i = i0 then c else f1 i) = true ∧ P i (if i = i0 then c else f1 i) = true
        by_cases hs : i = i0
        · rw [if_pos hs, hs]
          exact ⟨hc, hCc, hP⟩
        · rw [if_neg hs]
          obtain ⟨u, v, _, w⟩ := q i hi h hs
          exact ⟨u, v, w⟩
      · simp only at e
        by_cases hs : i = i0
        · by_cases ht : j = i0
          · rw [hs, ht]
          · rw [if_pos hs, if_neg ht] at e
            exact ((q j hj k ht).2.2.1 e.symm).elim
        · by_cases ht : j = i0
          · rw [if_neg hs, if_pos ht] at e
            exact ((q i hi h hs).2.2.1 e).elim
          · rw [if_neg hs, if_neg ht] at e
            exact b1 i j hi hj (by simp only [Bool.and_eq_true, Bool.not_eq_true']; exact ⟨h, by simpa using hs⟩) (by simp only [Bool.and_eq_true, Bool.not_eq_true']; exact ⟨k, by simpa using ht⟩) e
  · have hno : ∀ i, i < n → R i = true → False := fun i hi h => hex (cardB_pos hi h)
    exact ⟨id, fun i hi h => (hno i hi h).elim, fun i j hi _ h _ _ => (hno i hi h).elim⟩
/-- A placing, or rows that refuse one. -/
theorem hall_or (n : Nat) (P : Nat → Nat → Bool) : (∃ f : Nat → Nat, (∀ i, i < n → f i < n ∧ P i (f i) = true) ∧ ∀ i j, i < n → j < n → f i = f j → i = j) ∨ ∃ S : Nat → Bool, cardB n (nbr n P (fun _ => true) S) < cardB n S := by
 by_cases h : ∀ S : Nat → Bool, cardB n S ≤ cardB n (nbr n P (fun _ => true) S)
 · obtain ⟨f, a, b⟩ := hall n P (cardB n (fun _ => true)) (fun _ => true) (fun _ => true) (Nat.le_refl _) (fun S _ => h S)
   exact .inl ⟨f, fun i hi => ⟨(a i hi rfl).1, (a i hi rfl).2.2⟩, fun i j hi hj e => b i j hi hj rfl rfl e⟩
 · obtain ⟨S, hS⟩ := Classical.not_forall.1 h
   exact .inr ⟨S, by omega⟩
end Go.Proofs.YtgcgecbdmomceaaDoor.A

namespace Go.Proofs.YtgcgecbdmomceaaDoor.A
open Go.RowKit Go.Proofs.YtgcgecbdmomceaaDoorW.PrintWords Go.Proofs.YtgcgecbdmomceaaDoorW.PrintLast Go.Proofs.YtgcgecbdmomceaaDoorW.PrintMore
set_option linter.unusedVariables false
set_option linter.unusedSimpArgs false
end Go.Proofs.YtgcgecbdmomceaaDoor.A

namespace Go.Proofs.YtgcgecbdmomceaaDoor.A
open Go.RowKit Go.Proofs.YtgcgecbdmomceaaDoorW.PrintWords Go.Proofs.YtgcgecbdmomceaaDoorW.PrintLast Go.Proofs.YtgcgecbdmomceaaDoorW.PrintMore
set_option linter.unusedVariables false
set_option linter.unusedSimpArgs false
end Go.Proofs.YtgcgecbdmomceaaDoor.A

namespace Go.Proofs.YtgcgecbdmomceaaDoor.A
open Go.RowKit Go.Proofs.YtgcgecbdmomceaaDoorW.PrintWords Go.Proofs.YtgcgecbdmomceaaDoorW.PrintLast Go.Proofs.YtgcgecbdmomceaaDoorW.PrintMore
set_option linter.unusedVariables false
set_option linter.unusedSimpArgs false
def pre (x : List Int) (m : Nat) : Int := (x.take m).sum
end Go.Proofs.YtgcgecbdmomceaaDoor.A

namespace Go.Proofs.YtgcgecbdmomceaaDoor.A
open Go.RowKit Go.Proofs.YtgcgecbdmomceaaDoorW.PrintWords Go.Proofs.YtgcgecbdmomceaaDoorW.PrintLast Go.Proofs.YtgcgecbdmomceaaDoorW.PrintMore
set_option linter.unusedVariables false
set_option linter.unusedSimpArgs false
end Go.Proofs.YtgcgecbdmomceaaDoor.A

namespace Go.Proofs.YtgcgecbdmomceaaDoor.A
open Go.RowKit Go.Proofs.YtgcgecbdmomceaaDoorW.PrintWords Go.Proofs.YtgcgecbdmomceaaDoorW.PrintLast Go.Proofs.YtgcgecbdmomceaaDoorW.PrintMore
set_option linter.unusedVariables false
set_option linter.unusedSimpArgs false
end Go.Proofs.YtgcgecbdmomceaaDoor.A

namespace Go.Proofs.YtgcgecbdmomceaaDoor.A
open Go.RowKit Go.Proofs.YtgcgecbdmomceaaDoorW.PrintWords Go.Proofs.YtgcgecbdmomceaaDoorW.PrintLast Go.Proofs.YtgcgecbdmomceaaDoorW.PrintMore
set_option linter.unusedVariables false
set_option linter.unusedSimpArgs false
end Go.Proofs.YtgcgecbdmomceaaDoor.A

namespace Go.Proofs.YtgcgecbdmomceaaDoor.A
open Go.RowKit Go.Proofs.YtgcgecbdmomceaaDoorW.PrintWords Go.Proofs.YtgcgecbdmomceaaDoorW.PrintLast Go.Proofs.YtgcgecbdmomceaaDoorW.PrintMore
set_option linter.unusedVariables false
set_option linter.unusedSimpArgs false
/-! finite sums; tables with equal sums -/
def sN (n : Nat) (f : Nat → Int) : Int := ((List.range n).map f).sum
theorem sN_zero (f : Nat → Int) : sN 0 f = 0 := by simp [sN]
theorem sN_succ (n : Nat) (f : Nat → Int) : sN (n + 1) f = sN n f + f n := by
 unfold sN
 rw [List.range_succ, List.map_append, List.sum_append]
 simp
theorem sN_congr {n : Nat} {f g : Nat → Int} (h : ∀ i, i < n → f i = g i) : sN n f = sN n g := by
 unfold sN
 rw [List.map_congr_left fun i hi => h i (List.mem_range.1 hi)]
theorem sN_none (n : Nat) : sN n (fun _ => 0) = 0 := by
 induction n with
 | zero => exact sN_zero _
 | succ n ih => rw [sN_succ, ih]; omega
theorem sN_add (n : Nat) (f g : Nat → Int) : sN n (fun i => f i + g i) = sN n f + sN n g := by
 induction n with
 | zero => simp [sN_zero]
 | succ n ih => rw [sN_succ, sN_succ, sN_succ, ih]; omega
theorem sN_comm (n m : Nat) (f : Nat → Nat → Int) : sN n (fun i => sN m (fun j => f i j)) = sN m (fun j => sN n (fun i => f i j)) := by
 induction n with
 | zero => rw [sN_zero, sN_congr (g := fun _ => 0) (fun j _ => sN_zero _), sN_none]
 | succ n ih => rw [sN_succ, ih, ← sN_add, sN_congr (fun j _ => sN_succ n (fun i => f i j))]
theorem sN_one {n a : Nat} (h : a < n) (v : Int) : sN n (fun b => if b = a then v else 0) = v := by
 induction n with
 | zero => omega
 | succ n ih =>
  rw [sN_succ]
  by_cases e : n = a
  · subst e
    rw [sN_congr (g := fun _ => 0) (fun i hi => if_neg (by omega)), sN_none, if_pos rfl]
    omega
  · rw [ih (by omega), if_neg e]
    omega
def EqT (n : Nat) (G : Nat → Nat → Int) (s : Int) : Prop := ∀ i, i < n → sN n (G i) = s ∧ sN n (fun k => G k i) = s
theorem tabG_row_sum {n : Nat} (G : Nat → Nat → Int) {i : Nat} (h : i < n) : ((tabG n G).getD i []).sum = sN n (G i) := by
 have e : i < (tabG n G).length := by rw [tabG_length]; exact h
 rw [List.getD_eq_getElem?_getD, List.getElem?_eq_getElem e, Option.getD_some, tabG_get]
 rfl
theorem tabG_col_sum {n : Nat} (G : Nat → Nat → Int) {i : Nat} (h : i < n) : ((tabG n G).map fun x => rd x (i : Int)).sum = sN n (fun k => G k i) := by
 unfold tabG sN
 rw [List.map_map]
 refine congrArg List.sum (List.map_congr_left fun k _ => ?_)
 exact rowG_at (G k) h
theorem tabG_all {n : Nat} (G : Nat → Nat → Int) (s : Int) : (List.range' 0 n).all (okI (tabG n G) s) = true ↔ EqT n G s := by
 rw [List.all_eq_true]
 constructor
 · intro h i hi
   have k := h i (by rw [List.mem_range'_1]; omega)
   unfold okI at k
   rw [tabG_row_sum G hi, tabG_col_sum G hi, Bool.and_eq_true, decide_eq_true_eq, decide_eq_true_eq] at k
   exact k
 · intro h i hi
   rw [List.mem_range'_1] at hi
   have k := h i (by omega)
   unfold okI
   rw [tabG_row_sum G (by omega), tabG_col_sum G (by omega), Bool.and_eq_true, decide_eq_true_eq, decide_eq_true_eq]
   exact k
theorem equal_of {n : Nat} {G : Nat → Nat → Int} {s : Int} (hq : squareB (tabG n G) = true) (h : EqT n G s) : equalR (tabG n G) = (s, true) := by
 have h1 := (square_tab hq).2
 rw [tabG_length] at h1
 unfold equalR
 have e : sum0 (tabG n G) = s := by
  unfold sum0
  rw [tabG_row_sum G (by omega)]
  exact (h 0 (by omega)).1
 rw [if_pos hq, e, tabG_length, if_pos ((tabG_all G s).2 h)]
theorem squareG {n : Nat} (h1 : 1 ≤ n) (h6 : n ≤ 6) {G : Nat → Nat → Int} (h : ∀ i j, i < n → j < n → 0 ≤ G i j ∧ G i j ≤ 1000000) : squareB (tabG n G) = true := by
 unfold squareB
 rw [Bool.and_eq_true, decide_eq_true_eq, List.all_eq_true, tabG_length]
 refine ⟨by omega, fun x hx => ?_⟩
 unfold tabG at hx
 obtain ⟨i, hi, rfl⟩ := List.mem_map.1 hx
 unfold rowB inR
 rw [Bool.and_eq_true, decide_eq_true_eq, List.all_eq_true, List.length_map, List.length_range]
 refine ⟨rfl, fun y hy => ?_⟩
 obtain ⟨j, hj, rfl⟩ := List.mem_map.1 hy
 have := h i j (List.mem_range.1 hi) (List.mem_range.1 hj)
 simp [this]
end Go.Proofs.YtgcgecbdmomceaaDoor.A

namespace Go.Proofs.YtgcgecbdmomceaaDoor.A
open Go.RowKit Go.Proofs.YtgcgecbdmomceaaDoorW.PrintWords Go.Proofs.YtgcgecbdmomceaaDoorW.PrintLast Go.Proofs.YtgcgecbdmomceaaDoorW.PrintMore
set_option linter.unusedVariables false
set_option linter.unusedSimpArgs false
end Go.Proofs.YtgcgecbdmomceaaDoor.A

namespace Go.Proofs.YtgcgecbdmomceaaDoor.A
open Go.RowKit Go.Proofs.YtgcgecbdmomceaaDoorW.PrintWords Go.Proofs.YtgcgecbdmomceaaDoorW.PrintLast Go.Proofs.YtgcgecbdmomceaaDoorW.PrintMore
set_option linter.unusedVariables false
set_option linter.unusedSimpArgs false
/-! tables with equal sums: a placing is in each, and what is left has equal sums -/
theorem sN_le {n : Nat} {f g : Nat → Int} (h : ∀ i, i < n → f i ≤ g i) : sN n f ≤ sN n g := by
 induction n with
 | zero => rw [sN_zero, sN_zero]; exact Int.le_refl _
 | succ n ih =>
  have h1 := ih (fun i hi => h i (by omega))
  have h2 := h n (by omega)
  rw [sN_succ, sN_succ]
  omega
theorem sN_card (n : Nat) (S : Nat → Bool) (s : Int) : sN n (fun i => if S i = true then s else 0) = s * (cardB n S : Int) := by
 induction n with
 | zero => simp [sN_zero, cardB]
 | succ n ih =>
  have e : cardB (n + 1) S = cardB n S + (if S n = true then 1 else 0) := by
   unfold cardB
   rw [List.range_succ, List.countP_append, List.countP_singleton]
  rw [sN_succ, ih, e]
  split
  · rw [Int.natCast_add, Int.mul_add]
    simp
  · simp
/-- A placing as a list of columns. -/
structure Plg (n : Nat) (p : List Int) : Prop where
 len : p.length = n
 nd : p.Nodup
 bd : ∀ x ∈ p, 0 ≤ x ∧ x < (n : Int)
def ptF (p : List Int) (i j : Nat) : Int := if rd p (i : Int) = (j : Int) then 1 else 0
theorem nodup_rd {p : List Int} (h : p.Nodup) {i j : Nat} (hi : i < p.length) (hj : j < p.length) (e : rd p (i : Int) = rd p (j : Int)) : i = j := by
 rw [rdn hi, rdn hj] at e
 rcases Nat.lt_trichotomy i j with k | k | k
 · exact absurd e (List.pairwise_iff_getElem.1 h i j hi hj k)
 · exact k
 · exact absurd e.symm (List.pairwise_iff_getElem.1 h j i hj hi k)
theorem pt_eq {n : Nat} {p : List Int} (h : Plg n p) : EqT n (ptF p) 1 := by
 have hrow : ∀ i, i < n → sN n (ptF p i) = 1 := fun i hi => by
  have hip : i < p.length := by rw [h.len]; exact hi
  have hb := h.bd _ (List.getElem_mem hip)
  rw [← rdn hip] at hb
  obtain ⟨c, hc⟩ := Int.eq_ofNat_of_zero_le hb.1
  rw [sN_congr (g := fun j => if j = c then 1 else 0) (fun j _ => by
   unfold ptF
   by_cases e : j = c
   · rw [if_pos (by rw [hc, e]), if_pos e]
   · rw [if_neg (by rw [hc]; omega), if_neg e]), sN_one (by omega)]
 have hcol : ∀ j, j < n → 0 ≤ sN n (fun i => ptF p i j) ∧ sN n (fun i => ptF p i j) ≤ 1 := fun j hj => by
  by_cases hex : ∃ i, i < n ∧ rd p (i : Int) = (j : Int)
  · obtain ⟨i, hi, e⟩ := hex
    rw [sN_congr (g := fun q => if q = i then 1 else 0) (fun q hq => by
     unfold ptF
     by_cases e2 : q = i
     · rw [e2, if_pos e, if_pos rfl]
     · rw [if_neg (fun e3 => e2 (nodup_rd h.nd (by rw [h.len]; exact hq) (by rw [h.len]; exact hi) (e3.trans e.symm))), if_neg e2]), sN_one hi]
    omega
  · rw [sN_congr (g := fun _ => 0) (fun q hq => by
     unfold ptF
     rw [if_neg fun e => hex ⟨q, hq, e⟩]), sN_none]
    omega
 have htot : sN n (fun j => sN n (fun i => ptF p i j)) = (n : Int) := by
  rw [← sN_comm, sN_congr (g := fun _ => 1) (fun i hi => hrow i hi)]
  have := sN_card n (fun _ => true) 1
  rw [sN_congr (g := fun _ => 1) (fun i _ => by rw [if_pos rfl])] at this
  rw [this]
  unfold cardB
  rw [List.countP_true, List.length_range]
  omega
 have hone : ∀ (m : Nat) (f : Nat → Int), (∀ j, j < m → f j ≤ 1) → sN m f = (m : Int) → ∀ j, j < m → f j = 1 := by
  intro m
  induction m with
  | zero => intro f _ _ j hj; omega
  | succ m ih =>
   intro f hf hs j hj
   rw [sN_succ] at hs
   have h1 : sN m f ≤ (m : Int) := by
    have := sN_le (n := m) (f := f) (g := fun _ => 1) (fun i hi => hf i (by omega))
    have e := sN_card m (fun _ => true) 1
    rw [sN_congr (g := fun _ => 1) (fun i _ => by rw [if_pos rfl])] at e
    unfold cardB at e
    rw [List.countP_true, List.length_range] at e
    omega
   have h2 := hf m (by omega)
   by_cases e : j = m
   · rw [e]; omega
   · exact ih f (fun i hi => hf i (by omega)) (by omega) j (by omega)
 exact fun i hi => ⟨hrow i hi, hone n _ (fun j hj => (hcol j hj).2) htot i hi⟩
end Go.Proofs.YtgcgecbdmomceaaDoor.A

namespace Go.Proofs.YtgcgecbdmomceaaDoor.A
open Go.RowKit Go.Proofs.YtgcgecbdmomceaaDoorW.PrintWords Go.Proofs.YtgcgecbdmomceaaDoorW.PrintLast Go.Proofs.YtgcgecbdmomceaaDoorW.PrintMore
set_option linter.unusedVariables false
set_option linter.unusedSimpArgs false
def entP (l : List (List Int)) (p : List Int) (i : Nat) : Int := atG l i (rd p (i : Int)).toNat
structure PlgIn (n : Nat) (l : List (List Int)) (p : List Int) : Prop where
 len : p.length = n
 nd : p.Nodup
 bd : ∀ x ∈ p, 0 ≤ x ∧ x < (n : Int)
 pos : ∀ i, i < n → 0 < entP l p i
theorem PlgIn.plg {n : Nat} {l : List (List Int)} {p : List Int} (h : PlgIn n l p) : Plg n p := ⟨h.len, h.nd, h.bd⟩
theorem rd_snoc {p : List Int} {x : Int} {i : Nat} (h : i < p.length + 1) : rd (p ++ [x]) (i : Int) = if i < p.length then rd p (i : Int) else x := by
 rw [rdn (by rw [List.length_append, List.length_singleton]; exact h), List.getElem_append]
 by_cases c : i < p.length
 · rw [dif_pos c, if_pos c, rdn c]
 · rw [dif_neg c, if_neg c, List.getElem_singleton]
theorem plc_good {n : Nat} {l : List (List Int)} (hl : l.length = n) (hr : ∀ i, i < n → (rd_L1 l (i : Int)).length = n) : ∀ (m : Nat) (p q : List Int), p.length + m = n → p.Nodup → (∀ x ∈ p, 0 ≤ x ∧ x < (n : Int)) → (∀ i, i < p.length → 0 < entP l p i) → q ∈ plc l m p → PlgIn n l q
 | 0, p, q, hm, h1, h2, h3, hq => by
  have : q = p := by simpa [plc] using hq
  rw [this]
  exact ⟨by omega, h1, h2, fun i hi => h3 i (by omega)⟩
 | m + 1, p, q, hm, h1, h2, h3, hq => by
  rw [plc_succ] at hq
  obtain ⟨j, hj, hq⟩ := List.mem_flatMap.1 hq
  rw [List.mem_range, hr _ (by omega)] at hj
  unfold plcAt at hq
  split at hq
  · next hpos =>
    split at hq
    · simp at hq
    · next hne =>
      refine plc_good hl hr m (p ++ [(j : Int)]) q (by rw [List.length_append, List.length_singleton]; omega) ?_ ?_ ?_ hq
      · refine List.nodup_append.2 ⟨h1, List.pairwise_singleton _ _, fun a ha b hb e => ?_⟩
        rw [List.mem_singleton.1 hb] at e
        exact hne (e ▸ ha)
      · intro x hx
        rcases List.mem_append.1 hx with hx | hx
        · exact h2 x hx
        · rw [List.mem_singleton.1 hx]
          omega
      · intro i hi
        rw [List.length_append, List.length_singleton] at hi
        unfold entP
        rw [rd_snoc hi]
        by_cases c : i < p.length
        · rw [if_pos c]
          exact h3 i c
        · rw [if_neg c]
          have e : i = p.length := by omega
          rw [e, Int.toNat_natCast]
          exact hpos
  · simp at hq
theorem plc_has {n : Nat} {l : List (List Int)} (hr : ∀ i, i < n → (rd_L1 l (i : Int)).length = n) (f : Nat → Nat) (hf : ∀ i, i < n → f i < n ∧ 0 < atG l i (f i)) (hinj : ∀ i j, i < n → j < n → f i = f j → i = j) : ∀ (m i : Nat), i + m = n → (List.range n).map (fun k => (f k : Int)) ∈ plc l m ((List.range i).map fun k => (f k : Int))
 | 0, i, e => by
  have : i = n := by omega
  rw [this]
  simp [plc]
 | m + 1, i, e => by
  have ih := plc_has hr f hf hinj m (i + 1) (by omega)
  rw [List.range_succ, List.map_append] at ih
  have hlen : ((List.range i).map fun k => (f k : Int)).length = i := by simp
  rw [plc_succ, List.mem_flatMap]
  refine ⟨f i, ?_, ?_⟩
  · rw [List.mem_range, hlen, hr i (by omega)]
    exact (hf i (by omega)).1
  · unfold plcAt
    rw [hlen, if_pos (show rd (rd_L1 l (i : Int)) ((f i : Nat) : Int) > 0 from (hf i (by omega)).2)]
    rw [if_neg ?_]
    · exact ih
    · intro hm
      obtain ⟨k, hk, hkf⟩ := List.mem_map.1 hm
      rw [List.mem_range] at hk
      have := hinj k i (by omega) (by omega) (by omega)
      omega
theorem plg_rd {n : Nat} {p : List Int} (h : Plg n p) {i : Nat} (hi : i < n) : ∃ c : Nat, c < n ∧ rd p (i : Int) = (c : Int) := by
 have hip : i < p.length := by rw [h.len]; exact hi
 have hb := h.bd _ (List.getElem_mem hip)
 rw [← rdn hip] at hb
 exact ⟨(rd p (i : Int)).toNat, by omega, by omega⟩
end Go.Proofs.YtgcgecbdmomceaaDoor.A

namespace Go.Proofs.YtgcgecbdmomceaaDoor.A
open Go.RowKit Go.Proofs.YtgcgecbdmomceaaDoorW.PrintWords Go.Proofs.YtgcgecbdmomceaaDoorW.PrintLast Go.Proofs.YtgcgecbdmomceaaDoorW.PrintMore
set_option linter.unusedVariables false
set_option linter.unusedSimpArgs false
theorem doEmpty_l (n : Nat) (hn : n ≤ 1000) : ∀ (m i : Nat), i + m = n → Ev (fun k => spec_doEmpty.l0 k (n : Int) (List.replicate i (List.replicate n 0)) (i : Int)) (tabG n fun _ _ => 0)
 | 0, i, e => by
  have ei : i = n := by omega
  subst ei
  refine Ev.succ ?_
  simp only [spec_doEmpty.l0, if_neg (show ¬ (i : Int) < (i : Int) by omega)]
  rw [tabG_zero]
  exact Ev.now _
 | m + 1, i, e => by
  refine Ev.succ ?_
  have hi : i < n := by omega
  simp only [spec_doEmpty.l0, if_pos (show (i : Int) < (n : Int) by omega), if_pos (show (0 : Int) ≤ (n : Int) by omega), Int.toNat_natCast, if_pos (show n ≤ 35184372088832 by omega), List.length_replicate, if_pos (show i < 5864062014805 by omega), wsucc hi (by omega)]
  have := doEmpty_l n hn m (i + 1) (by omega)
  rw [List.replicate_succ'] at this
  exact this
theorem doEmpty_ev (n : Nat) (hn : n ≤ 1000) : Ev (fun k => spec_doEmpty.f k (n : Int)) (tabG n fun _ _ => 0) := by
 unfold spec_doEmpty.f
 exact doEmpty_l n hn n 0 (by omega)
end Go.Proofs.YtgcgecbdmomceaaDoor.A

namespace Go.Proofs.YtgcgecbdmomceaaDoor.A
open Go.RowKit Go.Proofs.YtgcgecbdmomceaaDoorW.PrintWords Go.Proofs.YtgcgecbdmomceaaDoorW.PrintLast Go.Proofs.YtgcgecbdmomceaaDoorW.PrintMore
set_option linter.unusedVariables false
set_option linter.unusedSimpArgs false
/-! square, doEmpty: what they make -/
theorem square_l1 (F : Int → Int → Option Int) (G : Nat → Nat → Int) (n : Nat) (hn : n ≤ 1000) (hF : ∀ i j, i < n → j < n → F (i : Int) (j : Int) = some (G i j)) (i : Nat) (hi : i < n) (X : List (List Int)) {r : List (List Int)} (hr : Ev (fun k => if X.length < 5864062014805 then impl_square.l0 F k (n : Int) (X ++ [(List.range n).map fun j => G i j]) (n : Int) ((i + 1 : Nat) : Int) else none) r) : ∀ (m j : Nat), j + m = n → Ev (fun k => impl_square.l1 F k (n : Int) X (i : Int) ((List.range j).map fun j => G i j) (n : Int) (i : Int) (n : Int) (j : Int)) r
 | 0, j, e => by
  have ej : j = n := by omega
  subst ej
  refine Ev.succ ?_
  simp only [impl_square.l1, if_neg (show ¬ (j : Int) < (j : Int) by omega), wsucc hi (by omega)]
  exact hr
 | m + 1, j, e => by
  refine Ev.succ ?_
  have hj : j < n := by omega
  simp only [impl_square.l1, if_pos (show (j : Int) < (n : Int) by omega), hF i j hi hj, Option.bind_some, List.length_map, List.length_range, if_pos (show j < 17592186044416 by omega), wsucc hj (by omega)]
  have := square_l1 F G n hn hF i hi X hr m (j + 1) (by omega)
  rw [List.range_succ, List.map_append] at this
  exact this
theorem square_l0 (F : Int → Int → Option Int) (G : Nat → Nat → Int) (n : Nat) (hn : n ≤ 1000) (hF : ∀ i j, i < n → j < n → F (i : Int) (j : Int) = some (G i j)) : ∀ (m i : Nat), i + m = n → Ev (fun k => impl_square.l0 F k (n : Int) ((List.range i).map fun i => (List.range n).map fun j => G i j) (n : Int) (i : Int)) (tabG n G)
 | 0, i, e => by
  have ei : i = n := by omega
  subst ei
  refine Ev.succ ?_
  simp only [impl_square.l0, if_neg (show ¬ (i : Int) < (i : Int) by omega)]
  exact Ev.now _
 | m + 1, i, e => by
  refine Ev.succ ?_
  have hi : i < n := by omega
  simp only [impl_square.l0, if_pos (show (i : Int) < (n : Int) by omega)]
  refine square_l1 F G n hn hF i hi _ ?_ n 0 (by omega)
  simp only [List.length_map, List.length_range, if_pos (show i < 5864062014805 by omega)]
  have := square_l0 F G n hn hF m (i + 1) (by omega)
  rw [List.range_succ, List.map_append] at this
  exact this
theorem square_ev (F : Int → Int → Option Int) (G : Nat → Nat → Int) (n : Nat) (hn : n ≤ 1000) (hF : ∀ i j, i < n → j < n → F (i : Int) (j : Int) = some (G i j)) : Ev (fun k => impl_square.f F k (n : Int)) (tabG n G) := by
 unfold impl_square.f
 exact square_l0 F G n hn hF n 0 (by omega)
end Go.Proofs.YtgcgecbdmomceaaDoor.A

namespace Go.Proofs.YtgcgecbdmomceaaDoor.A
open Go.RowKit Go.Proofs.YtgcgecbdmomceaaDoorW.PrintWords Go.Proofs.YtgcgecbdmomceaaDoorW.PrintLast Go.Proofs.YtgcgecbdmomceaaDoorW.PrintMore
set_option linter.unusedVariables false
set_option linter.unusedSimpArgs false
/-! PlacingTable -/
def ptG (l0 : List Int) (i j : Nat) : Int := if rd l0 (i : Int) = (j : Int) then 1 else 0
def ptR (l0 : List Int) : List (List Int) × Bool := if placeB l0 = true then (tabG l0.length (ptG l0), true) else ([], false)
theorem placeB_len {l0 : List Int} (h : placeB l0 = true) : 1 ≤ l0.length ∧ l0.length ≤ 6 ∧ l0.Nodup ∧ ∀ x ∈ l0, 0 ≤ x ∧ x < (l0.length : Int) := by
 unfold placeB at h
 split at h
 · next h1 =>
   split at h
   · next h2 =>
     unfold inR at h
     simp only [List.all_eq_true, decide_eq_true_eq] at h
     exact ⟨by omega, by omega, h2, fun x hx => by have := h x hx; omega⟩
   · cases h
 · cases h
theorem ptR_bd (l0 : List Int) : totSS (ptR l0).1 ≤ 1000 ∧ (ptR l0).1.length ≤ 1000 := by
 unfold ptR
 split
 · next h =>
   have hl := (placeB_len h).2.1
   have := Nat.mul_le_mul hl hl
   show totSS (tabG l0.length _) ≤ 1000 ∧ (tabG l0.length _).length ≤ 1000
   rw [tabG_tot, tabG_length]
   omega
 · simp [totSS]
theorem placing_l (l0 : List Int) (n : Nat) (e0 : l0.length = n) (hn : n ≤ 6) (hx : ∀ x ∈ l0, 0 ≤ x ∧ x < (n : Int)) : ∀ (m i : Nat), i + m = n → Ev (fun k => spec_PlacingTable.l0 k (tabG n fun a b => if a < i then ptG l0 a b else 0) l0 (n : Int) (i : Int)) (tabG n (ptG l0), true)
 | 0, i, e => by
  have ei : i = n := by omega
  subst ei
  refine Ev.succ ?_
  simp only [spec_PlacingTable.l0, if_neg (Int.lt_irrefl _)]
  rw [tabG_congr (G' := ptG l0) (fun a b ha _ => if_pos ha)]
  exact Ev.now _
 | m + 1, i, e => by
  have hi : i < l0.length := by omega
  have hb := hx _ (List.getElem_mem hi)
  have hr : rd l0 (i : Int) = l0[i] := rdn hi
  obtain ⟨x, hxe⟩ := Int.eq_ofNat_of_zero_le hb.1
  have hxn : x < n := by omega
  refine Ev.succ ?_
  simp only [spec_PlacingTable.l0, if_pos (show (i : Int) < (n : Int) by omega), if_pos (show (0 : Int) ≤ (i : Int) by omega), e0, tabG_length, tabG_rowlen _ (show i < n by omega), hr, hxe, if_pos (show (0 : Int) ≤ (x : Int) by omega), if_pos (show (x : Int) < (n : Int) by omega), Int.toNat_natCast, tabG_set _ _ _ (show i < n by omega), wsucc hi (by omega)]
  have := placing_l l0 n e0 hn hx m (i + 1) (by omega)
  rw [tabG_congr (G' := fun a b => if a < i + 1 then ptG l0 a b else 0) (fun a b ha hb => by
   unfold updG
   by_cases c : a = i ∧ b = x
   · obtain ⟨rfl, rfl⟩ := c
     rw [if_pos ⟨rfl, rfl⟩, if_pos (by omega)]
     unfold ptG
     rw [hr, hxe, if_pos rfl]
   · rw [if_neg c]
     show (if a < i then ptG l0 a b else 0) = _
     by_cases d : a < i
     · rw [if_pos d, if_pos (by omega)]
     · rw [if_neg d]
       by_cases f : a = i
       · subst f
         rw [if_pos (by omega)]
         unfold ptG
         rw [hr, hxe, if_neg (by omega)]
       · rw [if_neg (by omega)])]
  exact this
theorem specPlacingTable_ev (l0 : List Int) (u0 : l0.length ≤ 1048576) : Ev (fun k => spec_PlacingTable.f k l0) (ptR l0) := by
 unfold spec_PlacingTable.f ptR
 refine Ev.bind (doPlacing_ev l0) (Ev.ite (fun h => ?_) (fun _ => Ev.now _))
 obtain ⟨h1, h2, h3, h4⟩ := placeB_len h
 refine Ev.bind (doEmpty_ev l0.length (by omega)) ?_
 have := placing_l l0 l0.length rfl h2 h4 l0.length 0 (by omega)
 rw [tabG_congr (G' := fun _ _ => 0) (fun a b _ _ => if_neg (by omega))] at this
 exact this
theorem implPlacingTable_ev (l0 : List Int) (u0 : l0.length ≤ 1048576) : Ev (fun k => impl_PlacingTable.f k l0) (ptR l0) := by
 unfold impl_PlacingTable.f ptR
 by_cases c : (l0.length : Int) > 6
 · have hp : placeB l0 = false := by
    unfold placeB
    rw [if_neg (by omega)]
   simp only [if_pos c, hp, Bool.false_eq_true, if_false]
   exact Ev.now _
 · simp only [if_neg c]
   refine Ev.bind (implIsPlacing_ev l0 (by omega)) (Ev.ite (fun h => ?_) (fun _ => Ev.now _))
   obtain ⟨h1, h2, h3, h4⟩ := placeB_len h
   refine Ev.bind (square_ev _ (ptG l0) l0.length (by omega) (fun i j hi hj => ?_)) (Ev.now _)
   unfold placeF ptG
   rw [if_pos (by omega)]
end Go.Proofs.YtgcgecbdmomceaaDoor.A

namespace Go.Proofs.YtgcgecbdmomceaaDoor.A
open Go.RowKit Go.Proofs.YtgcgecbdmomceaaDoorW.PrintWords Go.Proofs.YtgcgecbdmomceaaDoorW.PrintLast Go.Proofs.YtgcgecbdmomceaaDoorW.PrintMore
set_option linter.unusedVariables false
set_option linter.unusedSimpArgs false
end Go.Proofs.YtgcgecbdmomceaaDoor.A

namespace Go.Proofs.YtgcgecbdmomceaaDoor.A
open Go.RowKit Go.Proofs.YtgcgecbdmomceaaDoorW.PrintWords Go.Proofs.YtgcgecbdmomceaaDoorW.PrintLast Go.Proofs.YtgcgecbdmomceaaDoorW.PrintMore
set_option linter.unusedVariables false
set_option linter.unusedSimpArgs false
end Go.Proofs.YtgcgecbdmomceaaDoor.A

namespace Go.Proofs.YtgcgecbdmomceaaDoor.A
open Go.RowKit Go.Proofs.YtgcgecbdmomceaaDoorW.PrintWords Go.Proofs.YtgcgecbdmomceaaDoorW.PrintLast Go.Proofs.YtgcgecbdmomceaaDoorW.PrintMore
set_option linter.unusedVariables false
set_option linter.unusedSimpArgs false
end Go.Proofs.YtgcgecbdmomceaaDoor.A

namespace Go.Proofs.YtgcgecbdmomceaaDoor.A
open Go.RowKit Go.Proofs.YtgcgecbdmomceaaDoorW.PrintWords Go.Proofs.YtgcgecbdmomceaaDoorW.PrintLast Go.Proofs.YtgcgecbdmomceaaDoorW.PrintMore
set_option linter.unusedVariables false
set_option linter.unusedSimpArgs false
theorem plg_place {n : Nat} {p : List Int} (h : Plg n p) (h1 : 1 ≤ n) (h6 : n ≤ 6) : placeB p = true := by
 have hl := h.len
 unfold placeB
 rw [if_pos (by omega), if_pos h.nd]
 unfold inR
 simp only [List.all_eq_true, decide_eq_true_eq]
 intro x hx
 have := h.bd x hx
 omega
end Go.Proofs.YtgcgecbdmomceaaDoor.A

namespace Go.Proofs.YtgcgecbdmomceaaDoor.A
open Go.RowKit Go.Proofs.YtgcgecbdmomceaaDoorW.PrintWords Go.Proofs.YtgcgecbdmomceaaDoorW.PrintLast Go.Proofs.YtgcgecbdmomceaaDoorW.PrintMore
set_option linter.unusedVariables false
set_option linter.unusedSimpArgs false
end Go.Proofs.YtgcgecbdmomceaaDoor.A

namespace Go.Proofs.YtgcgecbdmomceaaDoor.A
open Go.RowKit Go.Proofs.YtgcgecbdmomceaaDoorW.PrintWords Go.Proofs.YtgcgecbdmomceaaDoorW.PrintLast Go.Proofs.YtgcgecbdmomceaaDoorW.PrintMore
set_option linter.unusedVariables false
set_option linter.unusedSimpArgs false
theorem tot_le {l : List (List Int)} {B : Nat} (h : ∀ x ∈ l, x.length ≤ B) : totSS l ≤ B * l.length := by
 induction l with
 | nil => simp [totSS]
 | cons x l ih =>
  have := ih (fun y hy => h y (List.mem_cons_of_mem _ hy))
  have := h x List.mem_cons_self
  simp only [totSS, List.map_cons, List.sum_cons, List.length_cons, Nat.mul_succ] at *
  omega
end Go.Proofs.YtgcgecbdmomceaaDoor.A

namespace Go.Proofs.YtgcgecbdmomceaaDoor.A
open Go.RowKit Go.Proofs.YtgcgecbdmomceaaDoorW.PrintWords Go.Proofs.YtgcgecbdmomceaaDoorW.PrintLast Go.Proofs.YtgcgecbdmomceaaDoorW.PrintMore
set_option linter.unusedVariables false
set_option linter.unusedSimpArgs false
/-! draws of tables -/
structure Sq (n : Nat) (T : List (List Int)) : Prop where
 len : T.length = n
 row : ∀ i, i < n → (rd_L1 T (i : Int)).length = n
theorem Sq.set {n : Nat} {T : List (List Int)} (h : Sq n T) {i : Nat} (hi : i < n) {r : List Int} (hr : r.length = n) : Sq n (T.set i r) := by
 refine ⟨by rw [List.length_set, h.len], fun j hj => ?_⟩
 have hl := h.len
 rw [rd_L1n (show j < (T.set i r).length by rw [List.length_set]; omega), List.getElem_set]
 by_cases e : i = j
 · rw [if_pos e]
   exact hr
 · rw [if_neg e, ← rd_L1n (show j < T.length by omega)]
   exact h.row j hj
theorem Sq.zero (n : Nat) : Sq n (tabG n fun _ _ => 0) := ⟨tabG_length _ _, fun i hi => tabG_rowlen _ hi⟩
theorem placing_dl (l : List Int) (hl : Bytes l) (n : Nat) (hn : n ≤ 10) : ∀ (d i : Nat) (acc : List Int) (a s : Int), i + d = n → acc.length = i → 0 ≤ a → a ≤ 700000000 + 10 * (i : Int) → ∃ r a' s', Ev (fun k => spec_l1Cur_placing.l0 k (n : Int) acc (i : Int) l a s) (r, a', s') ∧ r.length = n ∧ a ≤ a' ∧ a' ≤ a + 2 * (d : Int) + 6
 | 0, i, acc, a, s, hi, hacc, h0, h1 => by
  have e : acc.length = n := by omega
  have J : ∀ a s, Ev (fun k => spec_l1Cur_placing.j1 k (n : Int) acc false l a s) (acc, a, s) := fun a s => Ev.succ (by simp only [spec_l1Cur_placing.j1, Bool.false_eq_true, if_false]; exact Ev.now _)
  by_cases c : (acc.length : Int) > 0
  · obtain ⟨t, a1, s1, e1, b0, b1⟩ := one_ev l hl a s 25 h0 (by omega)
    cases t with
    | false =>
     refine ⟨acc, a1, s1, Ev.succ ?_, e, by omega, by omega⟩
     simp only [spec_l1Cur_placing.l0, if_neg (show ¬ (i : Int) < (n : Int) by omega), if_pos c, e1, Option.bind_some]
     exact J _ _
    | true =>
     obtain ⟨x, a2, s2, e2, x0, x1, c0, c1⟩ := pick_ev l hl a1 s1 (acc.length : Int) (by omega) (by omega)
     obtain ⟨y, a3, s3, e3, y0, d0, d1⟩ := among_ev l hl a2 s2 ([(-1), 0, (n : Int), 4611686018427387904] : List Int) (by simp) (by omega) (by omega)
     refine ⟨acc.set x.toNat y, a3, s3, Ev.succ ?_, by rw [List.length_set]; exact e, by omega, by omega⟩
     simp only [spec_l1Cur_placing.l0, if_neg (show ¬ (i : Int) < (n : Int) by omega), if_pos c, e1, Option.bind_some]
     refine Ev.succ ?_
     simp only [spec_l1Cur_placing.j1, if_true, e2, e3, Option.bind_some, if_pos x0, if_pos (show x < (acc.length : Int) by omega)]
     exact Ev.now _
  · refine ⟨acc, a, s, Ev.succ ?_, e, by omega, by omega⟩
    simp only [spec_l1Cur_placing.l0, if_neg (show ¬ (i : Int) < (n : Int) by omega), if_neg c]
    exact J _ _
 | d + 1, i, acc, a, s, hi, hacc, h0, h1 => by
  obtain ⟨x, a1, s1, e1, x0, x1, b0, b1⟩ := pick_ev l hl a s (wrap64 ((i : Int) + 1)) h0 (by omega)
  have hw : wrap64 ((i : Int) + 1) = ((i + 1 : Nat) : Int) := by rw [w64 (by omega) (by omega)]; omega
  rw [hw] at e1 x1
  have hx : x ≤ (acc.length : Int) := by omega
  have hlt : (acc.take x.toNat).length = x.toNat := by rw [List.length_take]; omega
  have hld : (acc.drop x.toNat).length = acc.length - x.toNat := List.length_drop
  obtain ⟨r, a', s', er, hr, q1, q2⟩ := placing_dl l hl n hn d (i + 1) ((([] : List Int) ++ acc.take x.toNat ++ [(i : Int)]) ++ acc.drop x.toNat) a1 s1 (by omega) (by simp only [List.nil_append, List.length_append, List.length_singleton, hlt, hld]; omega) (by omega) (by omega)
  refine ⟨r, a', s', Ev.succ ?_, hr, by omega, by omega⟩
  simp only [spec_l1Cur_placing.l0, if_pos (show (i : Int) < (n : Int) by omega), hw, e1, Option.bind_some, if_pos x0, if_pos hx, List.length_nil, List.length_append, List.nil_append, List.length_singleton, hlt, hld, if_pos (show 0 + x.toNat < 17592186044416 by omega), if_pos (show x.toNat < 17592186044416 by omega), if_pos (show 0 + x.toNat + 1 + (acc.length - x.toNat) < 17592186044416 by omega), if_pos (show x.toNat + 1 + (acc.length - x.toNat) < 17592186044416 by omega)]
  simp only [List.nil_append] at er
  exact er
theorem placing_dev (l : List Int) (hl : Bytes l) (n : Nat) (hn : n ≤ 10) (a s : Int) (h0 : 0 ≤ a) (h1 : a ≤ 700000000) : ∃ r a' s', Ev (fun k => spec_l1Cur_placing.f k l a s (n : Int)) (r, a', s') ∧ r.length = n ∧ a ≤ a' ∧ a' ≤ a + 30 := by
 obtain ⟨r, a', s', e, h, q1, q2⟩ := placing_dl l hl n hn n 0 [] a s (by omega) rfl h0 (by omega)
 exact ⟨r, a', s', e, h, q1, by omega⟩
theorem equal_dl1 (l : List Int) (n : Nat) (hn : n ≤ 10) (p : List Int) (hp : p.length = n) (hb : ∀ x ∈ p, 0 ≤ x ∧ x < (n : Int)) (x6 x8 a s : Int) (Q : List (List Int) × Int × Int → Prop) (hr : ∀ T, Sq n T → ∃ r, Ev (fun k => spec_l1Cur_equal.l0 k (n : Int) T (wrap64 (x6 - 1)) l a s) r ∧ Q r) : ∀ (d i : Nat) (T : List (List Int)), i + d = n → Sq n T → ∃ r, Ev (fun k => spec_l1Cur_equal.l1 k (n : Int) T x6 x8 p (n : Int) (i : Int) l a s) r ∧ Q r
 | 0, i, T, hi, hT => by
  obtain ⟨r, e, q⟩ := hr T hT
  refine ⟨r, Ev.succ ?_, q⟩
  simp only [spec_l1Cur_equal.l1, if_neg (show ¬ (i : Int) < (n : Int) by omega)]
  exact e
 | d + 1, i, T, hi, hT => by
  have hip : i < p.length := by omega
  have hl := hT.len
  have hrow := hT.row i (by omega)
  have hx := hb _ (List.getElem_mem hip)
  obtain ⟨r, e, q⟩ := equal_dl1 l n hn p hp hb x6 x8 a s Q hr d (i + 1) (T.set i ((rd_L1 T (i : Int)).set (p[i]).toNat (wrap64 (rd (rd_L1 T (i : Int)) p[i] + x8)))) (by omega) (hT.set (by omega) (by rw [List.length_set, hrow]))
  refine ⟨r, Ev.succ ?_, q⟩
  simp only [spec_l1Cur_equal.l1, if_pos (show (i : Int) < (n : Int) by omega), if_pos (Int.natCast_nonneg i), if_pos (show (i : Int) < (p.length : Int) by omega), if_pos (show (i : Int) < (T.length : Int) by omega), rdn hip, if_pos hx.1, if_pos (show p[i] < ((rd_L1 T (i : Int)).length : Int) by omega), Int.toNat_natCast, wsucc (show i < n by omega) (by omega)]
  exact e
theorem equal_dl (l : List Int) (hl : Bytes l) (n : Nat) (hn : n ≤ 10) : ∀ (c : Nat) (T : List (List Int)) (a s : Int), (c : Int) ≤ 5 → Sq n T → 0 ≤ a → a ≤ 600000000 + 40 * (5 - (c : Int)) → ∃ r, Ev (fun k => spec_l1Cur_equal.l0 k (n : Int) T (c : Int) l a s) r ∧ (Sq n r.1 ∧ a ≤ r.2.1 ∧ r.2.1 ≤ a + 40 * (c : Int))
 | 0, T, a, s, hc, hT, h0, h1 => by
  refine ⟨(T, a, s), Ev.succ ?_, hT, Int.le_refl _, by simp⟩
  simp only [spec_l1Cur_equal.l0, if_neg (show ¬ ((0 : Nat) : Int) > 0 by omega)]
  exact Ev.now _
 | c + 1, T, a, s, hc, hT, h0, h1 => by
  obtain ⟨p, a1, s1, e1, hp, b0, b1⟩ := placing_dev l hl n hn a s h0 (by omega)
  have hw : wrap64 (((c + 1 : Nat) : Int) - 1) = (c : Int) := by rw [w64 (by omega) (by omega)]; omega
  by_cases g : placeB p = true
  · obtain ⟨x, a2, s2, e2, x0, x1, c0, c1⟩ := pick_ev l hl a1 s1 3 (by omega) (by omega)
    have hb := (placeB_len g).2.2.2
    rw [hp] at hb
    obtain ⟨r, er, q⟩ := equal_dl1 l n hn p hp hb ((c + 1 : Nat) : Int) (wrap64 (1 + x)) a2 s2 (fun r => Sq n r.1 ∧ a ≤ r.2.1 ∧ r.2.1 ≤ a + 40 * ((c + 1 : Nat) : Int)) (fun T hT => by
     obtain ⟨r, er, q1, q2, q3⟩ := equal_dl l hl n hn c T a2 s2 (by omega) hT (by omega) (by omega)
     rw [hw]
     exact ⟨r, er, q1, by omega, by omega⟩) n 0 T (by omega) hT
    refine ⟨r, Ev.succ ?_, q⟩
    simp only [spec_l1Cur_equal.l0, if_pos (show ((c + 1 : Nat) : Int) > 0 by omega)]
    refine Ev.bind e1 (Ev.bind (doPlacing_ev p) ?_)
    simp only [g, if_true, e2, Option.bind_some, hp]
    exact er
  · obtain ⟨r, er, q1, q2, q3⟩ := equal_dl l hl n hn c T a1 s1 (by omega) hT (by omega) (by omega)
    refine ⟨r, Ev.succ ?_, q1, by omega, by omega⟩
    simp only [spec_l1Cur_equal.l0, if_pos (show ((c + 1 : Nat) : Int) > 0 by omega)]
    refine Ev.bind e1 (Ev.bind (doPlacing_ev p) ?_)
    simp only [if_neg g, hw]
    exact er
theorem equal_dev (l : List Int) (hl : Bytes l) (n : Nat) (hn : n ≤ 10) (a s : Int) (h0 : 0 ≤ a) (h1 : a ≤ 600000000) : ∃ T a' s', Ev (fun k => spec_l1Cur_equal.f k l a s (n : Int)) (T, a', s') ∧ Sq n T ∧ a ≤ a' ∧ a' ≤ a + 300 := by
 obtain ⟨x, a1, s1, e1, x0, x1, b0, b1⟩ := pick_ev l hl a s 5 h0 (by omega)
 obtain ⟨c, rfl⟩ : ∃ c : Nat, x = (c : Int) := ⟨x.toNat, by omega⟩
 have hc : (c : Int) ≤ 5 := by omega
 obtain ⟨r, er, q1, q2, q3⟩ := equal_dl l hl n hn c (tabG n fun _ _ => 0) a1 s1 hc (Sq.zero n) (by omega) (by omega)
 refine ⟨r.1, r.2.1, r.2.2, ?_, q1, by omega, by omega⟩
 unfold spec_l1Cur_equal.f
 refine Ev.bind (doEmpty_ev n (by omega)) ?_
 simp only [e1, Option.bind_some]
 exact er
/-- A drawn table: few short rows. -/
def Few (T : List (List Int)) : Prop := T.length ≤ 11 ∧ ∀ x ∈ T, x.length ≤ 10
theorem Sq.few {n : Nat} {T : List (List Int)} (h : Sq n T) (hn : n ≤ 10) : Few T := by
 refine ⟨by rw [h.len]; omega, fun x hx => ?_⟩
 obtain ⟨i, hi, rfl⟩ := List.mem_iff_getElem.1 hx
 have := h.row i (by rw [← h.len]; exact hi)
 rw [rd_L1n hi] at this
 omega
theorem Few.tot {T : List (List Int)} (h : Few T) : T.length ≤ 1048576 ∧ totSS T ≤ 1048576 := by
 have := tot_le h.2
 have h1 := h.1
 have h2 : 10 * T.length ≤ 10 * 11 := Nat.mul_le_mul_left _ h1
 omega
theorem few_set {T : List (List Int)} (h : Few T) (i : Nat) {r : List Int} (hr : r.length ≤ 10) : Few (T.set i r) := by
 refine ⟨by rw [List.length_set]; exact h.1, fun x hx => ?_⟩
 rcases List.mem_or_eq_of_mem_set hx with k | k
 · exact h.2 x k
 · rw [k]
   exact hr
theorem squareD_j2 (l : List Int) (hl : Bytes l) (n : Nat) (h1n : 1 ≤ n) (hn : n ≤ 10) (T : List (List Int)) (hT : Sq n T) (a s : Int) (h0 : 0 ≤ a) (h1 : a ≤ 800000000) : ∃ r, Ev (fun k => spec_l1Cur_square.j2 k (n : Int) T l a s) r ∧ (Few r.1 ∧ a ≤ r.2.1 ∧ r.2.1 ≤ a + 20) := by
 have hlen := hT.len
 obtain ⟨x, a1, s1, e1, x0, x1, b0, b1⟩ := pick_ev l hl a s 16 h0 (by omega)
 by_cases c0 : x = 0
 · obtain ⟨i, a2, s2, e2, i0, i1, p0, p1⟩ := pick_ev l hl a1 s1 (n : Int) (by omega) (by omega)
   obtain ⟨j, a3, s3, e3, j0, j1, q0, q1⟩ := pick_ev l hl a2 s2 (n : Int) (by omega) (by omega)
   obtain ⟨v, a4, s4, e4, v0, r0, r1⟩ := among_ev l hl a3 s3 ([(-1), 0, 1000000, 1000001, 4611686018427387904] : List Int) (by decide) (by omega) (by omega)
   obtain ⟨i', rfl⟩ : ∃ i' : Nat, i = (i' : Int) := ⟨i.toNat, by omega⟩
   have hi : i' < n := by omega
   have hrow := hT.row i' hi
   refine ⟨(T.set ((i' : Int)).toNat ((rd_L1 T ((i' : Int))).set j.toNat v), a4, s4), Ev.succ ?_, few_set (hT.few hn) _ (by rw [List.length_set, hrow]; exact hn), by show a ≤ a4; omega, by show a4 ≤ a + 20; omega⟩
   simp only [spec_l1Cur_square.j2, e1, Option.bind_some, if_pos c0, e2, e3, e4, if_pos i0, if_pos (show (i' : Int) < (T.length : Int) by omega), if_pos j0, if_pos (show j < ((rd_L1 T ((i' : Int))).length : Int) by rw [hrow]; omega)]
   exact Ev.now _
 · by_cases c1 : x = 1
   · refine ⟨(T ++ [List.replicate (n : Int).toNat 0], a1, s1), Ev.succ ?_, ⟨by rw [List.length_append, List.length_singleton]; omega, fun y hy => ?_⟩, by show a ≤ a1; omega, by show a1 ≤ a + 20; omega⟩
     · simp only [spec_l1Cur_square.j2, e1, Option.bind_some, if_neg c0, if_pos c1, if_pos (Int.natCast_nonneg n), if_pos (show (n : Int).toNat ≤ 35184372088832 by omega), if_pos (show T.length < 5864062014805 by omega)]
       exact Ev.now _
     · rcases List.mem_append.1 hy with k | k
       · exact (hT.few hn).2 y k
       · rw [List.mem_singleton.1 k, List.length_replicate]
         omega
   · by_cases c2 : x = 2
     · have hrow := hT.row 0 (by omega)
       have e0 : rd_L1 T 0 = rd_L1 T ((0 : Nat) : Int) := rfl
       refine ⟨(T.set 0 ((rd_L1 T 0).drop 1), a1, s1), Ev.succ ?_, few_set (hT.few hn) _ (by rw [List.length_drop, e0, hrow]; omega), by show a ≤ a1; omega, by show a1 ≤ a + 20; omega⟩
       simp only [spec_l1Cur_square.j2, e1, Option.bind_some, if_neg c0, if_neg c1, if_pos c2, if_pos (show 0 < (T.length : Int) by omega), if_pos (show 1 ≤ ((rd_L1 T 0).length : Int) by rw [e0, hrow]; omega)]
       exact Ev.now _
     · by_cases c3 : x = 3
       · refine ⟨([], a1, s1), Ev.succ ?_, ⟨by simp, by simp⟩, by show a ≤ a1; omega, by show a1 ≤ a + 20; omega⟩
         simp only [spec_l1Cur_square.j2, e1, Option.bind_some, if_neg c0, if_neg c1, if_neg c2, if_pos c3]
         exact Ev.now _
       · refine ⟨(T, a1, s1), Ev.succ ?_, hT.few hn, by show a ≤ a1; omega, by show a1 ≤ a + 20; omega⟩
         simp only [spec_l1Cur_square.j2, e1, Option.bind_some, if_neg c0, if_neg c1, if_neg c2, if_neg c3]
         exact Ev.now _
theorem squareD_l1 (l : List Int) (hl : Bytes l) (n : Nat) (h1n : 1 ≤ n) (hn : n ≤ 10) (i : Nat) (hi : i < n) (Q : List (List Int) × Int × Int → Prop) (a0 : Int) (hr : ∀ T a s, Sq n T → a0 ≤ a → a ≤ a0 + 10 * (n : Int) → ∃ r, Ev (fun k => spec_l1Cur_square.l0 k (n : Int) T (n : Int) (wrap64 ((i : Int) + 1)) l a s) r ∧ Q r) (h0 : 0 ≤ a0) (h1 : a0 ≤ 700000000) : ∀ (d j : Nat) (T : List (List Int)) (a s : Int), j + d = n → Sq n T → a0 ≤ a → a ≤ a0 + 10 * (j : Int) → ∃ r, Ev (fun k => spec_l1Cur_square.l1 k (n : Int) T (i : Int) (n : Int) (i : Int) (n : Int) (j : Int) l a s) r ∧ Q r
 | 0, j, T, a, s, hj, hT, g0, g1 => by
  obtain ⟨r, e, q⟩ := hr T a s hT g0 (by omega)
  refine ⟨r, Ev.succ ?_, q⟩
  simp only [spec_l1Cur_square.l1, if_neg (show ¬ (j : Int) < (n : Int) by omega)]
  exact e
 | d + 1, j, T, a, s, hj, hT, g0, g1 => by
  have hlen := hT.len
  have hrow := hT.row i hi
  obtain ⟨x, a1, s1, e1, x0, x1, b0, b1⟩ := pick_ev l hl a s 9 (by omega) (by omega)
  obtain ⟨v, a2, s2, e2, v0, c0, c1⟩ := among_ev l hl a1 s1 ([0, 0, 1, 2, x] : List Int) (by simp) (by omega) (by omega)
  obtain ⟨r, e, q⟩ := squareD_l1 l hl n h1n hn i hi Q a0 hr h0 h1 d (j + 1) (T.set i ((rd_L1 T (i : Int)).set j v)) a2 s2 (by omega) (hT.set hi (by rw [List.length_set, hrow])) (by omega) (by omega)
  refine ⟨r, Ev.succ ?_, q⟩
  simp only [spec_l1Cur_square.l1, if_pos (show (j : Int) < (n : Int) by omega), e1, e2, Option.bind_some, if_pos (Int.natCast_nonneg i), if_pos (show (i : Int) < (T.length : Int) by omega), if_pos (Int.natCast_nonneg j), if_pos (show (j : Int) < ((rd_L1 T (i : Int)).length : Int) by omega), Int.toNat_natCast, wsucc (show j < n by omega) (by omega)]
  exact e
theorem squareD_l0 (l : List Int) (hl : Bytes l) (n : Nat) (h1n : 1 ≤ n) (hn : n ≤ 10) (a0 : Int) (h0 : 0 ≤ a0) (h1 : a0 ≤ 600000000) : ∀ (d i : Nat) (T : List (List Int)) (a s : Int), i + d = n → Sq n T → a0 ≤ a → a ≤ a0 + 100 * (i : Int) → ∃ r, Ev (fun k => spec_l1Cur_square.l0 k (n : Int) T (n : Int) (i : Int) l a s) r ∧ (Few r.1 ∧ a0 ≤ r.2.1 ∧ r.2.1 ≤ a0 + 2000)
 | 0, i, T, a, s, hi, hT, g0, g1 => by
  obtain ⟨r, e, q1, q2, q3⟩ := squareD_j2 l hl n h1n hn T hT a s (by omega) (by omega)
  refine ⟨r, Ev.succ ?_, q1, by omega, by omega⟩
  simp only [spec_l1Cur_square.l0, if_neg (show ¬ (i : Int) < (n : Int) by omega)]
  exact e
 | d + 1, i, T, a, s, hi, hT, g0, g1 => by
  have hlen := hT.len
  obtain ⟨r, e, q⟩ := squareD_l1 l hl n h1n hn i (by omega) (fun r => Few r.1 ∧ a0 ≤ r.2.1 ∧ r.2.1 ≤ a0 + 2000) a (fun T a' s' hT' k0 k1 => by
   rw [wsucc (show i < n by omega) (by omega)]
   exact squareD_l0 l hl n h1n hn a0 h0 h1 d (i + 1) T a' s' (by omega) hT' (by omega) (by omega)) (by omega) (by omega) n 0 T a s (by omega) hT (Int.le_refl _) (by omega)
  refine ⟨r, Ev.succ ?_, q⟩
  simp only [spec_l1Cur_square.l0, if_pos (show (i : Int) < (n : Int) by omega), hlen]
  exact e
theorem side_mem {x : Int} (h : x ∈ ([1, 2, 3, 3, 3, 4, 4, 6] : List Int)) : 1 ≤ x ∧ x ≤ 6 := by
 simp only [List.mem_cons, List.not_mem_nil, or_false] at h
 omega
theorem square_dev (l : List Int) (hl : Bytes l) (a s : Int) (h0 : 0 ≤ a) (h1 : a ≤ 500000000) : ∃ T a' s', Ev (fun k => spec_l1Cur_square.f k l a s) (T, a', s') ∧ Few T ∧ a ≤ a' ∧ a' ≤ a + 3000 := by
 obtain ⟨x, a1, s1, e1, hx, b0, b1⟩ := among_ev l hl a s ([1, 2, 3, 3, 3, 4, 4, 6] : List Int) (by decide) h0 (by omega)
 have hx := side_mem hx
 obtain ⟨n, rfl⟩ : ∃ n : Nat, x = (n : Int) := ⟨x.toNat, by omega⟩
 obtain ⟨T, a2, s2, e2, hT, c0, c1⟩ := equal_dev l hl n (by omega) a1 s1 (by omega) (by omega)
 obtain ⟨t, a3, s3, e3, d0, d1⟩ := one_ev l hl a2 s2 3 (by omega) (by omega)
 have hlen := hT.len
 have hside : spec_l1Cur_side.f l a s = some ((n : Int), a1, s1) := by
  unfold spec_l1Cur_side.f
  simp only [e1, Option.bind_some]
 have key : ∃ r : List (List Int) × Int × Int, Ev (fun k => if t = true then spec_l1Cur_square.l0 k (n : Int) T (T.length : Int) 0 l a3 s3 else spec_l1Cur_square.j2 k (n : Int) T l a3 s3) r ∧ (Few r.1 ∧ a3 ≤ r.2.1 ∧ r.2.1 ≤ a3 + 2000) := by
  cases t with
  | true =>
   obtain ⟨r, e, q⟩ := squareD_l0 l hl n (by omega) (by omega) a3 (by omega) (by omega) n 0 T a3 s3 (by omega) hT (Int.le_refl _) (by omega)
   refine ⟨r, ?_, q⟩
   simp only [if_true, hlen]
   exact e
  | false =>
   obtain ⟨r, e, q1, q2, q3⟩ := squareD_j2 l hl n (by omega) (by omega) T hT a3 s3 (by omega) (by omega)
   refine ⟨r, ?_, q1, q2, by omega⟩
   simp only [Bool.false_eq_true, if_false]
   exact e
 obtain ⟨r, e, q1, q2, q3⟩ := key
 refine ⟨r.1, r.2.1, r.2.2, ?_, q1, by omega, by omega⟩
 unfold spec_l1Cur_square.f
 simp only [hside, Option.bind_some]
 refine Ev.bind e2 ?_
 simp only [e3, Option.bind_some]
 exact e
end Go.Proofs.YtgcgecbdmomceaaDoor.A

namespace Go.Proofs.YtgcgecbdmomceaaDoor.A
open Go.RowKit Go.Proofs.YtgcgecbdmomceaaDoorW.PrintWords Go.Proofs.YtgcgecbdmomceaaDoorW.PrintLast Go.Proofs.YtgcgecbdmomceaaDoorW.PrintMore
set_option linter.unusedVariables false
set_option linter.unusedSimpArgs false
/-! the least set that refuses: first in order = best of all -/
def cmb : Nat → Nat → Nat → List (List Int)
 | _, 0, _ => [[]]
 | 0, _ + 1, _ => []
 | d + 1, m + 1, i => (cmb d m (i + 1)).map ((i : Int) :: ·) ++ cmb d (m + 1) (i + 1)
def allC (n : Nat) : List (List Int) := (List.range' 1 n).flatMap fun k => cmb n k 0
def refR (c p : List Int) : Bool := better c (some p) && !better p (some c)
def sortedB : List (List Int) → Bool
 | [] => true
 | a :: r => !better a (some a) && r.all (refR a) && sortedB r
theorem all_sorted : ∀ n : Fin 7, sortedB (allC n.val) = true := by decide +kernel
theorem all_has : ∀ n : Fin 7, (List.range (2 ^ n.val - 1)).all (fun s => (allC n.val).contains (memB (s + 1))) = true := by decide +kernel
theorem all_from : ∀ n : Fin 7, (allC n.val).all (fun c => (List.range (2 ^ n.val - 1)).any fun s => decide (memB (s + 1) = c)) = true := by decide +kernel
theorem find_put (x : List Int) (q : List Int → Bool) : ∀ A : List (List Int), sortedB A = true → x ∈ A → A.find? (fun c => q c || decide (c = x)) = if better x (A.find? q) = true then some x else A.find? q
 | [], _, h => by simp at h
 | a :: r, hs, hx => by
  unfold sortedB at hs
  rw [Bool.and_eq_true, Bool.and_eq_true] at hs
  obtain ⟨⟨h1, h2⟩, h3⟩ := hs
  rw [List.all_eq_true] at h2
  rw [List.find?_cons, List.find?_cons]
  cases hq : q a with
  | true =>
   simp only [Bool.true_or]
   rw [if_neg]
   rcases List.mem_cons.1 hx with e | e
   · rw [e]
     simpa using h1
   · have := h2 x e
     unfold refR at this
     rw [Bool.and_eq_true] at this
     simpa using this.2
  | false =>
   simp only [Bool.false_or]
   by_cases e : a = x
   · subst e
     simp only [decide_true]
     rw [if_pos]
     cases hf : r.find? q with
     | none => rfl
     | some p =>
      have := h2 p (List.mem_of_find?_eq_some hf)
      unfold refR at this
      rw [Bool.and_eq_true] at this
      exact this.1
   · simp only [decide_eq_false e]
     refine find_put x q r h3 ?_
     rcases List.mem_cons.1 hx with e2 | e2
     · exact absurd e2.symm e
     · exact e2
theorem find_congr {q q' : List Int → Bool} : ∀ {A : List (List Int)}, (∀ c ∈ A, q c = q' c) → A.find? q = A.find? q'
 | [], _ => rfl
 | a :: r, h => by
  rw [List.find?_cons, List.find?_cons, h a List.mem_cons_self, find_congr fun c hc => h c (List.mem_cons_of_mem _ hc)]
def refuB (t : List (List Int)) (c : List Int) : Bool := decide (colsOf t c t.length < c.length)
def seenB (s : Nat) (c : List Int) : Bool := (List.range s).any fun i => decide (memB (i + 1) = c)
theorem seen_succ (s : Nat) (c : List Int) : seenB (s + 1) c = (seenB s c || decide (memB (s + 1) = c)) := by
 unfold seenB
 rw [List.range_succ, List.any_append]
 simp
theorem refL_find (t : List (List Int)) (h6 : t.length ≤ 6) : ∀ (d s : Nat) (best : Option (List Int)), s + d = 2 ^ t.length - 1 → best = (allC t.length).find? (fun c => refuB t c && seenB s c) → refL t d (s + 1) best = (allC t.length).find? (refuB t)
 | 0, s, best, hs, hb => by
  rw [refL, hb]
  refine find_congr fun c hc => ?_
  have := all_from ⟨t.length, by omega⟩
  dsimp only at this
  rw [List.all_eq_true] at this
  have := this c hc
  unfold seenB
  rw [show s = 2 ^ t.length - 1 by omega, this, Bool.and_true]
 | d + 1, s, best, hs, hb => by
  have hA := all_sorted ⟨t.length, by omega⟩
  have hm := all_has ⟨t.length, by omega⟩
  dsimp only at hA hm
  rw [List.all_eq_true] at hm
  have hx : memB (s + 1) ∈ allC t.length := by
   have := hm s (List.mem_range.2 (by omega))
   simpa using this
  rw [refL]
  refine refL_find t h6 d (s + 1) _ (by omega) ?_
  unfold refB
  by_cases hr : colsOf t (memB (s + 1)) t.length < (memB (s + 1)).length
  · have hp : refuB t (memB (s + 1)) = true := decide_eq_true hr
    have e := find_put (memB (s + 1)) (fun c => refuB t c && seenB s c) (allC t.length) hA hx
    rw [find_congr (q' := fun c => refuB t c && seenB (s + 1) c) (fun c hc => by
     rw [seen_succ]
     by_cases e : c = memB (s + 1)
     · subst e
       rw [hp]
       simp
     · rw [decide_eq_false e, decide_eq_false (fun h => e h.symm)]
       simp)] at e
    rw [e, ← hb]
    by_cases hbt : better (memB (s + 1)) best = true
    · rw [if_pos ⟨hr, hbt⟩, if_pos hbt]
    · rw [if_neg (fun h => hbt h.2), if_neg hbt]
  · have hp : refuB t (memB (s + 1)) = false := decide_eq_false hr
    rw [if_neg (fun h => hr h.1), hb]
    refine find_congr fun c hc => ?_
    rw [seen_succ]
    by_cases e : memB (s + 1) = c
    · subst e
      rw [hp]
      simp
    · rw [decide_eq_false e]
      simp
theorem refO_find (t : List (List Int)) (h6 : t.length ≤ 6) : refO t = (allC t.length).find? (refuB t) := by
 unfold refO
 refine refL_find t h6 _ 0 none (by omega) ?_
 symm
 rw [List.find?_eq_none]
 intro c _
 simp [seenB]
end Go.Proofs.YtgcgecbdmomceaaDoor.A

namespace Go.Proofs.YtgcgecbdmomceaaDoor.A
open Go.RowKit Go.Proofs.YtgcgecbdmomceaaDoorW.PrintWords Go.Proofs.YtgcgecbdmomceaaDoorW.PrintLast Go.Proofs.YtgcgecbdmomceaaDoorW.PrintMore
set_option linter.unusedVariables false
set_option linter.unusedSimpArgs false
theorem l1Own_eq (l : List Int) (hx : l.length ≤ 1048576) : spec_l1Own.f l = some l := by
 unfold spec_l1Own.f
 simp only [Option.bind_some, List.nil_append, List.length_nil, Nat.zero_add, if_pos (show l.length < 17592186044416 by omega)]
end Go.Proofs.YtgcgecbdmomceaaDoor.A

namespace Go.Proofs.YtgcgecbdmomceaaDoor.A
open Go.RowKit Go.Proofs.YtgcgecbdmomceaaDoorW.PrintWords Go.Proofs.YtgcgecbdmomceaaDoorW.PrintLast Go.Proofs.YtgcgecbdmomceaaDoorW.PrintMore
set_option linter.unusedVariables false
set_option linter.unusedSimpArgs false
/-! RefusingRows -/
theorem refu_l1 {t : List (List Int)} (hT : Tab t) (rows : List Int) (hr : ∀ x ∈ rows, 0 ≤ x ∧ x < (t.length : Int)) (hl : rows.length ≤ 100) (j : Nat) (hj : j < t.length) (c : Int) {r : Bool} (h1 : colHas t rows j = true → Ev (fun k => spec_doRefuses.l0 k t rows (wrap64 (c + 1)) (t.length : Int) (wrap64 ((j : Int) + 1))) r) (h0 : colHas t rows j = false → Ev (fun k => spec_doRefuses.l0 k t rows c (t.length : Int) (wrap64 ((j : Int) + 1))) r) : ∀ (d i : Nat) (has : Bool), i + d = rows.length → (has || (rows.drop i).any fun x => decide (0 < rd (rd_L1 t x) (j : Int))) = colHas t rows j → Ev (fun k => spec_doRefuses.l1 k t rows c (j : Int) has (t.length : Int) (j : Int) rows (rows.length : Int) (i : Int)) r
 | 0, i, has, hi, hc => by
  rw [List.drop_eq_nil_of_le (by omega), List.any_nil, Bool.or_false] at hc
  refine Ev.succ ?_
  simp only [spec_doRefuses.l1, if_neg (show ¬ (i : Int) < (rows.length : Int) by omega)]
  cases has with
  | true =>
   simp only [if_true]
   exact h1 hc.symm
  | false =>
   simp only [Bool.false_eq_true, if_false]
   exact h0 hc.symm
 | d + 1, i, has, hi, hc => by
  have hi2 : i < rows.length := by omega
  have hb := hr _ (List.getElem_mem hi2)
  rw [List.drop_eq_getElem_cons hi2, List.any_cons] at hc
  refine Ev.succ ?_
  simp only [spec_doRefuses.l1, if_pos (show (i : Int) < (rows.length : Int) by omega), if_pos (show (0 : Int) ≤ (i : Int) by omega), rdn hi2, wsucc hi2 (by omega)]
  cases has with
  | true =>
   simp only [if_true]
   exact refu_l1 hT rows hr hl j hj c h1 h0 d (i + 1) true (by omega) (by rw [← hc]; simp)
  | false =>
   obtain ⟨a, ha⟩ := Int.eq_ofNat_of_zero_le hb.1
   have hal : a < t.length := by omega
   have hrl := tab_rowlen hT hal
   simp only [Bool.false_eq_true, if_false, if_pos hb.1, if_pos hb.2, if_pos (show (0 : Int) ≤ (j : Int) by omega), if_pos (show (j : Int) < ((rd_L1 t rows[i]).length : Int) by rw [ha, hrl]; omega)]
   exact refu_l1 hT rows hr hl j hj c h1 h0 d (i + 1) (decide (0 < rd (rd_L1 t rows[i]) (j : Int))) (by omega) (by rw [← hc]; simp)
theorem refu_l0 {t : List (List Int)} (hT : Tab t) (rows : List Int) (hr : ∀ x ∈ rows, 0 ≤ x ∧ x < (t.length : Int)) (hl : rows.length ≤ 100) : ∀ (d j : Nat), j + d = t.length → Ev (fun k => spec_doRefuses.l0 k t rows ((colsOf t rows j : Nat) : Int) (t.length : Int) (j : Int)) (refuB t rows)
 | 0, j, hj => by
  refine Ev.succ ?_
  simp only [spec_doRefuses.l0, if_neg (show ¬ (j : Int) < (t.length : Int) by omega)]
  have e : j = t.length := by omega
  subst e
  have : decide (((colsOf t rows t.length : Nat) : Int) < (rows.length : Int)) = refuB t rows := by
   unfold refuB
   rw [decide_eq_decide]
   omega
  rw [this]
  exact Ev.now _
 | d + 1, j, hj => by
  have h6 := hT.len
  have hle := colsOf_le t rows j
  have hs := colsOf_succ t rows j
  have hj2 : j < t.length := by omega
  refine Ev.succ ?_
  simp only [spec_doRefuses.l0, if_pos (show (j : Int) < (t.length : Int) by omega)]
  have ih := refu_l0 hT rows hr hl d (j + 1) (by omega)
  refine refu_l1 hT rows hr hl j hj2 _ (fun h => ?_) (fun h => ?_) rows.length 0 false (by omega) (by rw [List.drop_zero, Bool.false_or]; rfl)
  · rw [h, if_pos rfl] at hs
    rw [wsucc (n := 100) (by omega) (by omega), wsucc hj2 (by omega), ← hs]
    exact ih
  · rw [h, if_neg (by simp)] at hs
    have hs2 : colsOf t rows j = colsOf t rows (j + 1) := by omega
    rw [wsucc hj2 (by omega), hs2]
    exact ih
theorem doRefuses_ev {t : List (List Int)} (hT : Tab t) (rows : List Int) (hr : ∀ x ∈ rows, 0 ≤ x ∧ x < (t.length : Int)) (hl : rows.length ≤ 100) : Ev (fun k => spec_doRefuses.f k t rows) (refuB t rows) := refu_l0 hT rows hr hl t.length 0 (by omega)
def outC (rows : List Int) : Option (List Int) → List Int
 | none => []
 | some c => rows ++ c
theorem doRows_ev {t : List (List Int)} (hT : Tab t) : ∀ (m d i : Nat) (rows : List Int), i + d = t.length → (∀ x ∈ rows, 0 ≤ x ∧ x < (t.length : Int)) → rows.length + m ≤ 50 → 1 ≤ rows.length + m → Ev (fun k => spec_doRows.f k t rows (i : Int) (m : Int)) (outC rows ((cmb d m i).find? fun c => refuB t (rows ++ c)))
 | 0, d, i, rows, hi, hr, hl, h1 => by
  refine Ev.succ ?_
  have hc : cmb d 0 i = [[]] := by cases d <;> rfl
  rw [hc]
  simp only [spec_doRows.f, Int.ofNat_zero, if_true]
  refine Ev.bind (doRefuses_ev hT rows hr (by omega)) ?_
  rw [List.find?_cons, List.append_nil]
  cases refuB t rows with
  | true =>
   simp only [if_true, outC, List.append_nil]
   exact Ev.now _
  | false =>
   simp only [Bool.false_eq_true, if_false, List.find?_nil, outC]
   exact Ev.now _
 | m + 1, d, i, rows, hi, hr, hl, h1 => by
  have loop : ∀ (d i : Nat), i + d = t.length → Ev (fun k => spec_doRows.l0 k t rows ((m + 1 : Nat) : Int) (i : Int)) (outC rows ((cmb d (m + 1) i).find? fun c => refuB t (rows ++ c))) := by
   intro d
   induction d with
   | zero =>
    intro i hi
    refine Ev.succ ?_
    simp only [spec_doRows.l0, if_neg (show ¬ (i : Int) < (t.length : Int) by omega), cmb, List.find?_nil, outC]
    exact Ev.now _
   | succ d ih =>
    intro i hi
    have h6 := hT.len
    have hi2 : i < t.length := by omega
    refine Ev.succ ?_
    simp only [spec_doRows.l0, if_pos (show (i : Int) < (t.length : Int) by omega), l1Own_eq rows (by omega), Option.bind_some, if_pos (show rows.length < 17592186044416 by omega), wsucc hi2 (by omega), show wrap64 (((m + 1 : Nat) : Int) - 1) = (m : Int) by rw [w64 (by omega) (by omega)]; omega]
    refine Ev.bind (doRows_ev hT m d (i + 1) (rows ++ [(i : Int)]) (by omega) (fun x hx => by
     rcases List.mem_append.1 hx with h | h
     · exact hr x h
     · rw [List.mem_singleton.1 h]; omega) (by rw [List.length_append, List.length_singleton]; omega) (by rw [List.length_append, List.length_singleton]; omega)) ?_
    have hcm : cmb (d + 1) (m + 1) i = (cmb d m (i + 1)).map ((i : Int) :: ·) ++ cmb d (m + 1) (i + 1) := rfl
    rw [hcm, List.find?_append, List.find?_map]
    have hq : ((fun c => refuB t (rows ++ c)) ∘ fun x => (i : Int) :: x) = fun c => refuB t ((rows ++ [(i : Int)]) ++ c) := by
     funext c
     simp
    rw [hq]
    cases hf : (cmb d m (i + 1)).find? (fun c => refuB t ((rows ++ [(i : Int)]) ++ c)) with
    | none =>
     refine Ev.ite' (fun c => absurd c (by simp [outC])) (fun _ => ?_)
     simp only [Option.map_none, Option.none_or]
     exact ih (i + 1) (by omega)
    | some c =>
     have e : outC rows (((some c).map fun x => (i : Int) :: x).or ((cmb d (m + 1) (i + 1)).find? fun c => refuB t (rows ++ c))) = outC (rows ++ [(i : Int)]) (some c) := by simp [outC]
     rw [e]
     refine Ev.ite' (fun _ => Ev.now _) (fun h => absurd (show ((outC (rows ++ [(i : Int)]) (some c)).length : Int) > 0 by simp only [outC, List.length_append, List.length_singleton]; omega) h)
  refine Ev.succ ?_
  simp only [spec_doRows.f, if_neg (show ¬ ((m + 1 : Nat) : Int) = 0 by omega)]
  exact loop d i hi
def rrO : Option (List Int) → List Int × Bool
 | none => ([], false)
 | some p => (p, true)
def rrR (l : List (List Int)) : List Int × Bool := if squareB l = true then rrO (refO l) else ([], false)
theorem rr_l0 {t : List (List Int)} (hT : Tab t) : ∀ (d kk : Nat), kk + d = t.length + 1 → 1 ≤ kk → Ev (fun k => spec_RefusingRows.l0 k t (kk : Int)) (rrO (((List.range' kk d).flatMap fun k => cmb t.length k 0).find? (refuB t)))
 | 0, kk, hk, h1 => by
  refine Ev.succ ?_
  simp only [spec_RefusingRows.l0, if_neg (show ¬ (kk : Int) ≤ (t.length : Int) by omega)]
  exact Ev.now _
 | d + 1, kk, hk, h1 => by
  have h6 := hT.len
  refine Ev.succ ?_
  simp only [spec_RefusingRows.l0, if_pos (show (kk : Int) ≤ (t.length : Int) by omega), wsucc (show kk < 100 by omega) (by omega)]
  refine Ev.bind (doRows_ev hT kk t.length 0 [] (by omega) (by simp) (by simp only [List.length_nil]; omega) (by simp only [List.length_nil]; omega)) ?_
  rw [show List.range' kk (d + 1) = kk :: List.range' (kk + 1) d from rfl, List.flatMap_cons, List.find?_append]
  have hq : (fun c => refuB t (([] : List Int) ++ c)) = refuB t := by
   funext c
   rw [List.nil_append]
  rw [hq]
  cases hf : (cmb t.length kk 0).find? (refuB t) with
  | none =>
   refine Ev.ite' (fun c => absurd c (by simp [outC])) (fun _ => ?_)
   rw [Option.none_or]
   exact rr_l0 hT d (kk + 1) (by omega) (by omega)
  | some c =>
   have hc := List.find?_some hf
   have hc2 : colsOf t c t.length < c.length := of_decide_eq_true hc
   rw [Option.some_or]
   refine Ev.ite' (fun _ => Ev.now _) (fun h => absurd (show ((outC [] (some c)).length : Int) > 0 by simp only [outC, List.nil_append]; omega) h)
theorem specRefusingRows_ev (l0 : List (List Int)) (u0 : l0.length ≤ 1048576) (v0 : totSS l0 ≤ 1048576) : Ev (fun k => spec_RefusingRows.f k l0) (rrR l0) := by
 unfold spec_RefusingRows.f rrR
 refine Ev.bind (doGood_ev l0 u0 v0) (Ev.ite (fun h => ?_) (fun _ => Ev.now _))
 obtain ⟨hT, h1⟩ := square_tab h
 have := rr_l0 hT l0.length 1 (by omega) (by omega)
 rw [refO_find l0 hT.len]
 exact this
theorem implRefusingRows_eq (l0 : List (List Int)) (u0 : l0.length ≤ 1048576) (v0 : totSS l0 ≤ 1048576) : impl_RefusingRows.f l0 = some (rrR l0) := by
 unfold impl_RefusingRows.f rrR
 rw [implIsSquare_eq l0 u0 v0, Option.bind_some]
 cases squareB l0 with
 | false => rfl
 | true =>
  rw [if_pos rfl, if_pos rfl]
  cases refO l0 <;> rfl
theorem rr_some {l : List (List Int)} {p : List Int} (h : rrR l = (p, true)) : squareB l = true ∧ p ∈ allC l.length ∧ colsOf l p l.length < p.length := by
 unfold rrR at h
 split at h
 · next hq =>
   obtain ⟨hT, _⟩ := square_tab hq
   rw [refO_find l hT.len] at h
   cases hf : (allC l.length).find? (refuB l) with
   | none => rw [hf] at h; simp [rrO] at h
   | some c =>
    rw [hf] at h
    have e : c = p := by simpa [rrO] using h
    subst e
    have h2 : refuB l c = true := List.find?_some hf
    exact ⟨hq, List.mem_of_find?_eq_some hf, of_decide_eq_true h2⟩
 · simp at h
theorem all_bd : ∀ n : Fin 7, (allC n.val).all (fun c => c.all (fun x => decide (0 ≤ x ∧ x < (n.val : Int))) && decide (c.length ≤ 6) && decide c.Nodup) = true := by decide +kernel
theorem allC_bd {n : Nat} (h : n ≤ 6) {c : List Int} (hc : c ∈ allC n) : (∀ x ∈ c, 0 ≤ x ∧ x < (n : Int)) ∧ c.length ≤ 6 ∧ c.Nodup := by
 have := all_bd ⟨n, by omega⟩
 dsimp only at this
 rw [List.all_eq_true] at this
 have := this c hc
 rw [Bool.and_eq_true, Bool.and_eq_true, List.all_eq_true, decide_eq_true_eq, decide_eq_true_eq] at this
 exact ⟨fun x hx => of_decide_eq_true (this.1.1 x hx), this.1.2, this.2⟩
theorem rrR_bd (l : List (List Int)) : (rrR l).1.length ≤ 1000 := by
 cases hb : (rrR l).2 with
 | false =>
  unfold rrR at hb ⊢
  split
  · next h =>
    rw [if_pos h] at hb
    cases hr : refO l with
    | none => simp [rrO]
    | some p => rw [hr] at hb; simp [rrO] at hb
  · simp
 | true =>
  obtain ⟨h1, h2, _⟩ := rr_some (l := l) (p := (rrR l).1) (by rw [← hb])
  have := allC_bd (square_tab h1).1.len h2
  omega
end Go.Proofs.YtgcgecbdmomceaaDoor.A

namespace Go.Proofs.YtgcgecbdmomceaaDoor.A
open Go.RowKit Go.Proofs.YtgcgecbdmomceaaDoorW.PrintWords Go.Proofs.YtgcgecbdmomceaaDoorW.PrintLast Go.Proofs.YtgcgecbdmomceaaDoorW.PrintMore
set_option linter.unusedVariables false
set_option linter.unusedSimpArgs false
/-! a table has a placing or rows that refuse one -/
theorem nodup_le : ∀ {l m : List Int}, l.Nodup → (∀ x ∈ l, x ∈ m) → l.length ≤ m.length
 | [], _, _, _ => Nat.zero_le _
 | x :: r, m, hn, hs => by
  rw [List.nodup_cons] at hn
  have hx := hs x List.mem_cons_self
  have ih := nodup_le (l := r) (m := m.erase x) hn.2 (fun y hy => by
   rw [List.mem_erase_of_ne (fun e : y = x => hn.1 (by rw [← e]; exact hy))]
   exact hs y (List.mem_cons_of_mem _ hy))
  rw [List.length_erase_of_mem hx] at ih
  have := List.length_pos_of_mem hx
  rw [List.length_cons]
  omega
theorem map_nodup {f : Int → Int} : ∀ {l : List Int}, l.Nodup → (∀ x ∈ l, ∀ y ∈ l, f x = f y → x = y) → (l.map f).Nodup
 | [], _, _ => List.nodup_nil
 | x :: r, hn, hi => by
  rw [List.nodup_cons] at hn
  rw [List.map_cons, List.nodup_cons]
  refine ⟨fun h => ?_, map_nodup hn.2 fun a ha b hb => hi a (List.mem_cons_of_mem _ ha) b (List.mem_cons_of_mem _ hb)⟩
  obtain ⟨y, hy, e⟩ := List.mem_map.1 h
  have := hi y (List.mem_cons_of_mem _ hy) x List.mem_cons_self e
  exact hn.1 (this ▸ hy)
theorem colsOf_ge {n : Nat} {t : List (List Int)} {q : List Int} (hq : PlgIn n t q) {c : List Int} (hc : ∀ x ∈ c, 0 ≤ x ∧ x < (n : Int)) (hd : c.Nodup) : c.length ≤ colsOf t c n := by
 have key : (c.map fun x => rd q x).length ≤ (((List.range n).filter (colHas t c)).map Int.ofNat).length := by
  refine nodup_le (map_nodup hd fun x hx y hy e => ?_) fun z hz => ?_
  · obtain ⟨a, rfl⟩ := Int.eq_ofNat_of_zero_le (hc x hx).1
    obtain ⟨b, rfl⟩ := Int.eq_ofNat_of_zero_le (hc y hy).1
    have ha := (hc _ hx).2
    have hb := (hc _ hy).2
    have := nodup_rd hq.nd (by rw [hq.len]; omega) (by rw [hq.len]; omega) e
    rw [this]
  · obtain ⟨x, hx, rfl⟩ := List.mem_map.1 hz
    obtain ⟨a, rfl⟩ := Int.eq_ofNat_of_zero_le (hc x hx).1
    have ha := (hc _ hx).2
    have hal : a < q.length := by rw [hq.len]; omega
    obtain ⟨d, hdn, hde⟩ := plg_rd hq.plg (show a < n by omega)
    rw [hde]
    refine List.mem_map.2 ⟨d, List.mem_filter.2 ⟨List.mem_range.2 hdn, ?_⟩, rfl⟩
    unfold colHas
    rw [List.any_eq_true]
    refine ⟨_, hx, decide_eq_true ?_⟩
    have hp := hq.pos a (by omega)
    unfold entP at hp
    rw [hde, Int.toNat_natCast] at hp
    exact hp
 rw [List.length_map, List.length_map, ← List.countP_eq_length_filter] at key
 exact key
theorem bits_ex (S : Nat → Bool) : ∀ n : Nat, ∃ s, s < 2 ^ n ∧ ∀ i, i < n → s.testBit i = S i
 | 0 => ⟨0, by simp, fun i h => by omega⟩
 | n + 1 => by
  obtain ⟨s, h1, h2⟩ := bits_ex S n
  have hp : 2 ^ (n + 1) = 2 ^ n * 2 := Nat.pow_succ ..
  cases hS : S n with
  | false =>
   refine ⟨s, by omega, fun i hi => ?_⟩
   by_cases e : i = n
   · subst e
     rw [hS]
     exact Nat.testBit_lt_two_pow h1
   · exact h2 i (by omega)
  | true =>
   refine ⟨2 ^ n + s, by omega, fun i hi => ?_⟩
   by_cases e : i = n
   · subst e
     rw [hS, Nat.testBit_two_pow_add_eq, Nat.testBit_lt_two_pow h1]
     rfl
   · rw [Nat.testBit_two_pow_add_gt (by omega)]
     exact h2 i (by omega)
theorem memB_count {s n : Nat} (hn : n ≤ 6) (hs : s < 2 ^ n) : (memB s).length = (List.range n).countP fun i => s.testBit i := by
 unfold memB
 rw [List.length_map, ← List.countP_eq_length_filter]
 obtain ⟨d, hd⟩ : ∃ d, 6 = n + d := ⟨6 - n, by omega⟩
 rw [hd, List.range_add, List.countP_append]
 have : ((List.range d).map fun x => n + x).countP (fun i => s.testBit i) = 0 := by
  rw [List.countP_eq_zero]
  intro x hx
  obtain ⟨y, _, rfl⟩ := List.mem_map.1 hx
  rw [Nat.testBit_lt_two_pow (Nat.lt_of_lt_of_le hs (Nat.pow_le_pow_right (by omega) (by omega)))]
  simp
 omega
theorem refuse_ex {t : List (List Int)} (hT : Tab t) {S : Nat → Bool} (h : cardB t.length (nbr t.length (fun i j => decide (0 < atG t i j)) (fun _ => true) S) < cardB t.length S) : ∃ c ∈ allC t.length, refuB t c = true := by
 obtain ⟨s, h1, h2⟩ := bits_ex S t.length
 have h6 := hT.len
 have hl := memB_count h6 h1
 have hcard : (List.range t.length).countP (fun i => s.testBit i) = cardB t.length S := by
  unfold cardB
  exact List.countP_congr fun i hi => by rw [h2 i (List.mem_range.1 hi)]
 have hle : colsOf t (memB s) t.length ≤ cardB t.length (nbr t.length (fun i j => decide (0 < atG t i j)) (fun _ => true) S) := by
  unfold colsOf cardB
  refine List.countP_mono_left fun j hj hc => ?_
  unfold colHas at hc
  rw [List.any_eq_true] at hc
  obtain ⟨x, hx, hd⟩ := hc
  obtain ⟨i, rfl, hi6, hb⟩ := memB_mem hx
  have hbd := memB_bd h1 hx
  rw [nbr_iff]
  refine ⟨rfl, i, by omega, ?_, hd⟩
  rw [← h2 i (by omega)]
  exact hb
 refine ⟨memB s, ?_, decide_eq_true (by omega)⟩
 have hs0 : 1 ≤ s := by
  cases s with
  | zero => simp at hcard; omega
  | succ s => omega
 have hm := all_has ⟨t.length, by omega⟩
 dsimp only at hm
 rw [List.all_eq_true] at hm
 have := hm (s - 1) (List.mem_range.2 (by omega))
 rw [show s - 1 + 1 = s by omega] at this
 simpa using this
theorem pl_or {t : List (List Int)} (h : squareB t = true) : (plc t t.length [] = [] ↔ ∃ c, refO t = some c) := by
 obtain ⟨hT, h1⟩ := square_tab h
 have h6 := hT.len
 have hrl : ∀ i, i < t.length → (rd_L1 t (i : Int)).length = t.length := fun i hi => tab_rowlen hT hi
 rw [refO_find t h6]
 constructor
 · intro hp
   have : ∃ c ∈ allC t.length, refuB t c = true := by
    rcases hall_or t.length (fun i j => decide (0 < atG t i j)) with ⟨f, hf, hinj⟩ | ⟨S, hS⟩
    · have := plc_has hrl f (fun i hi => ⟨(hf i hi).1, of_decide_eq_true (hf i hi).2⟩) hinj t.length 0 (by omega)
      rw [show (List.range 0).map (fun k => (f k : Int)) = [] from rfl, hp] at this
      simp at this
    · exact refuse_ex hT hS
   obtain ⟨c, hc, hr⟩ := this
   cases hf : (allC t.length).find? (refuB t) with
   | none =>
    rw [List.find?_eq_none] at hf
    exact absurd hr (hf c hc)
   | some d => exact ⟨d, rfl⟩
 · rintro ⟨c, hc⟩
   have hr : refuB t c = true := List.find?_some hc
   have hcm := allC_bd h6 (List.mem_of_find?_eq_some hc)
   cases hp : plc t t.length [] with
   | nil => rfl
   | cons q r =>
    have hg := plc_good rfl hrl t.length [] q (by simp) List.nodup_nil (by simp) (by simp) (by rw [hp]; exact List.mem_cons_self)
    have := colsOf_ge hg hcm.1 hcm.2.2
    have h2 : colsOf t c t.length < c.length := of_decide_eq_true hr
    omega
theorem flat_one {α : Type} (f : Nat → List α) (j : Nat) (x : α) : ∀ (l : List Nat), l.Nodup → j ∈ l → (∀ i ∈ l, i ≠ j → f i = []) → f j = [x] → l.flatMap f = [x]
 | [], _, h, _, _ => by simp at h
 | a :: r, hn, hj, h0, hx => by
  rw [List.nodup_cons] at hn
  rw [List.flatMap_cons]
  by_cases e : a = j
  · subst e
    rw [hx]
    have : r.flatMap f = [] := by
     rw [List.flatMap_eq_nil_iff]
     intro i hi
     exact h0 i (List.mem_cons_of_mem _ hi) (fun e => hn.1 (e ▸ hi))
    rw [this, List.append_nil]
  · rw [h0 a List.mem_cons_self e, List.nil_append]
    refine flat_one f j x r hn.2 ?_ (fun i hi => h0 i (List.mem_cons_of_mem _ hi)) hx
    rcases List.mem_cons.1 hj with h | h
    · exact absurd h.symm e
    · exact h
theorem plc_own {n : Nat} {q : List Int} (h : Plg n q) : ∀ (m i : Nat), i + m = n → plc (tabG n (ptG q)) m (q.take i) = [q]
 | 0, i, e => by
  unfold plc
  rw [List.take_of_length_le (by rw [h.len]; omega)]
 | m + 1, i, e => by
  have hi : i < q.length := by rw [h.len]; omega
  have hlt : (q.take i).length = i := by rw [List.length_take]; omega
  obtain ⟨j, hj, hje⟩ := plg_rd h (show i < n by omega)
  rw [plc_succ, hlt, tabG_rowlen _ (show i < n by omega)]
  refine flat_one _ j q _ List.nodup_range (List.mem_range.2 hj) (fun a ha hne => ?_) ?_
  · have han := List.mem_range.1 ha
    unfold plcAt
    rw [hlt, if_neg]
    have : rd (rd_L1 (tabG n (ptG q)) (i : Int)) (a : Int) = ptG q i a := atG_tab _ (by omega) han
    rw [this]
    unfold ptG
    rw [if_neg (by rw [hje]; omega)]
    omega
  · unfold plcAt
    have : rd (rd_L1 (tabG n (ptG q)) (i : Int)) (j : Int) = ptG q i j := atG_tab _ (by omega) hj
    rw [hlt, this]
    unfold ptG
    rw [if_pos hje, if_pos (by omega), if_neg]
    · have e2 : q.take i ++ [(j : Int)] = q.take (i + 1) := by
       rw [List.take_succ_eq_append_getElem hi, ← rdn hi, hje]
      rw [e2]
      exact plc_own h m (i + 1) (by omega)
    · intro hm
      have h1 := h.nd.sublist (List.take_sublist (i + 1) q)
      rw [List.take_succ_eq_append_getElem hi, List.nodup_append] at h1
      have e3 : q[i] = (j : Int) := by rw [← rdn hi, hje]
      exact h1.2.2 _ hm _ List.mem_cons_self e3.symm
theorem own_table {q : List Int} (h : placeB q = true) : ∃ u, ptR q = (u, true) ∧ fpR u = (q, true) ∧ cpR u = (1, true) ∧ equalR u = (1, true) := by
 obtain ⟨h1, h6, hd, hb⟩ := placeB_len h
 have hP : Plg q.length q := ⟨rfl, hd, hb⟩
 have hq : squareB (tabG q.length (ptG q)) = true := squareG h1 h6 fun i j _ _ => by
  unfold ptG
  split <;> omega
 have hp := plc_own hP q.length 0 (by omega)
 rw [List.take_zero] at hp
 refine ⟨tabG q.length (ptG q), by unfold ptR; rw [if_pos h], ?_, ?_, equal_of hq (pt_eq hP)⟩
 · unfold fpR
   rw [if_pos hq, tabG_length, hp]
 · unfold cpR
   rw [if_pos hq, tabG_length, hp]
   rfl
theorem drawFirst_ev (l : List Int) (hl : Bytes l) : ∃ T, Ev (fun k => spec_DrawFirstPlacing.f k l) T ∧ Few T := by
 obtain ⟨T, a1, s1, e1, hT, b0, b1⟩ := square_dev l hl 0 0 (by omega) (by omega)
 refine ⟨T, ?_, hT⟩
 unfold spec_DrawFirstPlacing.f spec_DrawIsSquare.f
 exact Ev.bind (Ev.bind e1 (Ev.now _)) (Ev.now _)
theorem drawPlacing_ev (l : List Int) (hl : Bytes l) : ∃ q : List Int, Ev (fun k => spec_DrawPlacingTable.f k l) q ∧ q.length ≤ 10 := by
 obtain ⟨x, a1, s1, e1, hx, b0, b1⟩ := among_ev l hl 0 0 ([0, 1, 2, 3, 4, 6, 7] : List Int) (by decide) (by omega) (by omega)
 have hx : 0 ≤ x ∧ x ≤ 7 := by
  simp only [List.mem_cons, List.not_mem_nil, or_false] at hx
  omega
 obtain ⟨n, rfl⟩ : ∃ n : Nat, x = (n : Int) := ⟨x.toNat, by omega⟩
 obtain ⟨r, a2, s2, e2, hr, _, _⟩ := placing_dev l hl n (by omega) a1 s1 (by omega) (by omega)
 refine ⟨r, ?_, by omega⟩
 unfold spec_DrawPlacingTable.f spec_DrawIsPlacing.f
 simp only [e1, Option.bind_some]
 exact Ev.bind (Ev.bind e2 (Ev.now _)) (Ev.now _)
end Go.Proofs.YtgcgecbdmomceaaDoor.A

namespace Go.Proofs.YtgcgecbdmomceaaDoor.A
open Go.RowKit Go.Proofs.YtgcgecbdmomceaaDoorW.PrintWords Go.Proofs.YtgcgecbdmomceaaDoorW.PrintLast Go.Proofs.YtgcgecbdmomceaaDoorW.PrintMore
set_option linter.unusedVariables false
set_option linter.unusedSimpArgs false
/-! the words on rows that the laws of tables share -/
theorem ySame_l (xs ys : List Int) (hx : xs.length ≤ 9223372036854775807) (hl : xs.length = ys.length) : ∀ (n i : Nat), i + n = xs.length → Ev (fun k => laws_ySame.l0 k xs ys (xs.length : Int) (i : Int)) (decide (xs.drop i = ys.drop i))
 | 0, i, h => by
  refine Ev.succ ?_
  simp only [laws_ySame.l0, if_neg (show ¬ (i : Int) < (xs.length : Int) by omega)]
  rw [List.drop_eq_nil_of_le (by omega), List.drop_eq_nil_of_le (by omega), decide_eq_true rfl]
  exact Ev.now _
 | n + 1, i, h => by
  have hi : i < xs.length := by omega
  have hj : i < ys.length := by omega
  refine Ev.succ ?_
  simp only [laws_ySame.l0, if_pos (show (i : Int) < (xs.length : Int) by omega), if_pos (show (0 : Int) ≤ (i : Int) by omega), if_pos (show (i : Int) < (ys.length : Int) by omega), rdn hi, rdn hj, wsucc hi hx]
  rw [List.drop_eq_getElem_cons hi, List.drop_eq_getElem_cons hj]
  by_cases c : xs[i] = ys[i]
  · simp only [if_pos c, c, List.cons.injEq, true_and]
    exact ySame_l xs ys hx hl n (i + 1) (by omega)
  · simp only [if_neg c, List.cons.injEq, c, false_and, decide_false]
    exact Ev.now _
theorem ySame_ev (xs ys : List Int) (hx : xs.length ≤ 9223372036854775807) : Ev (fun k => laws_ySame.f k xs ys) (decide (xs = ys)) := by
 unfold laws_ySame.f
 by_cases h : (xs.length : Int) = (ys.length : Int)
 · simp only [if_pos h]
   exact ySame_l xs ys hx (by omega) xs.length 0 (by omega)
 · simp only [if_neg h]
   rw [decide_eq_false (fun e => h (by rw [e]))]
   exact Ev.now _
theorem ySame_self (xs : List Int) (hx : xs.length ≤ 9223372036854775807) : Ev (fun k => laws_ySame.f k xs xs) true := by
 have h := ySame_ev xs xs hx
 rw [decide_eq_true rfl] at h
 exact h
theorem yRows_l (l : List (List Int)) (hl : l.length ≤ 9223372036854775807) (hx : ∀ x ∈ l, x.length ≤ 9223372036854775807) : ∀ (d i : Nat), i + d = l.length → Ev (fun k => laws_yRows.l0 k l l (l.length : Int) (i : Int)) true
 | 0, i, e => by
  refine Ev.succ ?_
  simp only [laws_yRows.l0, if_neg (show ¬ (i : Int) < (l.length : Int) by omega)]
  exact Ev.now _
 | d + 1, i, e => by
  have hi : i < l.length := by omega
  refine Ev.succ ?_
  simp only [laws_yRows.l0, if_pos (show (i : Int) < (l.length : Int) by omega), if_pos (Int.natCast_nonneg i), rd_L1n hi, wsucc hi (by omega)]
  refine Ev.bind (ySame_self l[i] (hx _ (List.getElem_mem hi))) ?_
  simp only [if_true]
  exact yRows_l l hl hx d (i + 1) (by omega)
theorem yRows_self (l : List (List Int)) (hl : l.length ≤ 1000) (ht : totSS l ≤ 1000) : Ev (fun k => laws_yRows.f k l l) true := by
 unfold laws_yRows.f
 simp only [if_true]
 exact yRows_l l (by omega) (fun x hx => by have := len_tot hx; omega) l.length 0 (by omega)
end Go.Proofs.YtgcgecbdmomceaaDoor.A

/- The law FnPlacingsOrRows holds of the printed functions, for every argument: numbers and lists alone. -/
namespace Go.Proofs.YtgcgecbdmomceaaDoor.Pure
open Go.RowKit Go.Proofs.YtgcgecbdmomceaaDoor.A Go.Proofs.YtgcgecbdmomceaaDoorW.PrintWords Go.Proofs.YtgcgecbdmomceaaDoorW.PrintLast
set_option linter.unusedVariables false
set_option linter.unusedSimpArgs false
theorem po_j6 (l1 : List Int) (b1 : Bytes l1) : Ev (fun k => laws_FnPlacingsOrRows.j6 k l1) true := by
 obtain ⟨q, e1, hq⟩ := drawPlacing_ev l1 b1
 have kb := ptR_bd q
 refine Ev.succ ?_
 simp only [laws_FnPlacingsOrRows.j6]
 refine Ev.bind e1 (Ev.bind (implPlacingTable_ev q (by omega)) (Ev.bind (specPlacingTable_ev q (by omega)) ?_))
 simp only [bne_self_eq_false, Bool.false_eq_true, if_false]
 refine Ev.bind (yRows_self _ kb.2 kb.1) ?_
 simp only [if_true]
 refine Ev.bind (implIsPlacing_ev q (by omega)) ?_
 have h2 : (ptR q).2 = placeB q := by
  unfold ptR
  cases placeB q <;> rfl
 rw [h2]
 simp only [bne_self_eq_false]
 refine Ev.succ ?_
 simp only [laws_FnPlacingsOrRows.j7, Bool.false_eq_true, if_false]
 refine Ev.ite' (fun c => ?_) (fun _ => Ev.now _)
 obtain ⟨u, hu, hf, hc, he⟩ := own_table c
 rw [hu] at kb ⊢
 dsimp only at kb ⊢
 simp only [implFirstPlacing_eq u (by omega) (by omega), implCountPlacings_eq u (by omega) (by omega), Option.bind_some]
 refine Ev.bind (implEqualSum_ev u (by omega) (by omega)) ?_
 simp only [hf, hc, he, if_true]
 refine Ev.bind (ySame_self q (by omega)) ?_
 simp only [if_true, beq_self_eq_true]
 exact Ev.now _
theorem po_l2 {t : List (List Int)} (hT : Tab t) (l1 : List Int) (rows : List Int) (hr : ∀ x ∈ rows, 0 ≤ x ∧ x < (t.length : Int)) (hl : rows.length ≤ 100) (j : Nat) (hj : j < t.length) (c : Int) (h1 : colHas t rows j = true → Ev (fun k => laws_FnPlacingsOrRows.l1 k l1 t rows (wrap64 (c + 1)) (t.length : Int) (wrap64 ((j : Int) + 1))) true) (h0 : colHas t rows j = false → Ev (fun k => laws_FnPlacingsOrRows.l1 k l1 t rows c (t.length : Int) (wrap64 ((j : Int) + 1))) true) : ∀ (d i : Nat) (has : Bool), i + d = rows.length → (has || (rows.drop i).any fun x => decide (0 < rd (rd_L1 t x) (j : Int))) = colHas t rows j → Ev (fun k => laws_FnPlacingsOrRows.l2 k l1 t rows c (j : Int) has (t.length : Int) (j : Int) rows (rows.length : Int) (i : Int)) true
 | 0, i, has, hi, hc => by
  rw [List.drop_eq_nil_of_le (by omega), List.any_nil, Bool.or_false] at hc
  refine Ev.succ ?_
  simp only [laws_FnPlacingsOrRows.l2, if_neg (show ¬ (i : Int) < (rows.length : Int) by omega)]
  cases has with
  | true =>
   simp only [if_true]
   exact h1 hc.symm
  | false =>
   simp only [Bool.false_eq_true, if_false]
   exact h0 hc.symm
 | d + 1, i, has, hi, hc => by
  have hi2 : i < rows.length := by omega
  have hb := hr _ (List.getElem_mem hi2)
  rw [List.drop_eq_getElem_cons hi2, List.any_cons] at hc
  refine Ev.succ ?_
  simp only [laws_FnPlacingsOrRows.l2, if_pos (show (i : Int) < (rows.length : Int) by omega), if_pos (show (0 : Int) ≤ (i : Int) by omega), rdn hi2, wsucc hi2 (by omega)]
  cases has with
  | true =>
   simp only [if_true]
   exact po_l2 hT l1 rows hr hl j hj c h1 h0 d (i + 1) true (by omega) (by rw [← hc]; simp)
  | false =>
   obtain ⟨a, ha⟩ := Int.eq_ofNat_of_zero_le hb.1
   have hal : a < t.length := by omega
   have hrl := tab_rowlen hT hal
   simp only [Bool.false_eq_true, if_false, if_pos hb.1, if_pos hb.2, if_pos (show (0 : Int) ≤ (j : Int) by omega), if_pos (show (j : Int) < ((rd_L1 t rows[i]).length : Int) by rw [ha, hrl]; omega)]
   exact po_l2 hT l1 rows hr hl j hj c h1 h0 d (i + 1) (decide (0 < rd (rd_L1 t rows[i]) (j : Int))) (by omega) (by rw [← hc]; simp)
theorem po_l1 {t : List (List Int)} (hT : Tab t) (l1 : List Int) (b1 : Bytes l1) (rows : List Int) (hr : ∀ x ∈ rows, 0 ≤ x ∧ x < (t.length : Int)) (hl : rows.length ≤ 100) (hc : colsOf t rows t.length < rows.length) : ∀ (d j : Nat), j + d = t.length → Ev (fun k => laws_FnPlacingsOrRows.l1 k l1 t rows ((colsOf t rows j : Nat) : Int) (t.length : Int) (j : Int)) true
 | 0, j, hj => by
  refine Ev.succ ?_
  have e : j = t.length := by omega
  subst e
  simp only [laws_FnPlacingsOrRows.l1, if_neg (show ¬ (t.length : Int) < (t.length : Int) by omega), if_neg (show ¬ ((colsOf t rows t.length : Nat) : Int) ≥ (rows.length : Int) by omega)]
  exact po_j6 l1 b1
 | d + 1, j, hj => by
  have h6 := hT.len
  have hle := colsOf_le t rows j
  have hs := colsOf_succ t rows j
  have hj2 : j < t.length := by omega
  refine Ev.succ ?_
  simp only [laws_FnPlacingsOrRows.l1, if_pos (show (j : Int) < (t.length : Int) by omega)]
  have ih := po_l1 hT l1 b1 rows hr hl hc d (j + 1) (by omega)
  refine po_l2 hT l1 rows hr hl j hj2 _ (fun h => ?_) (fun h => ?_) rows.length 0 false (by omega) (by rw [List.drop_zero, Bool.false_or]; rfl)
  · rw [h, if_pos rfl] at hs
    rw [wsucc (n := 100) (by omega) (by omega), wsucc hj2 (by omega), ← hs]
    exact ih
  · rw [h, if_neg (by simp)] at hs
    have hs2 : colsOf t rows j = colsOf t rows (j + 1) := by omega
    rw [wsucc hj2 (by omega), hs2]
    exact ih
theorem po_j3 (t : List (List Int)) (l1 : List Int) (b1 : Bytes l1) : Ev (fun k => laws_FnPlacingsOrRows.j3 k l1 t (rrR t).1 (rrR t).2) true := by
 refine Ev.succ ?_
 simp only [laws_FnPlacingsOrRows.j3]
 refine Ev.ite' (fun c => ?_) (fun _ => po_j6 l1 b1)
 obtain ⟨h1, h2, h3⟩ := rr_some (l := t) (p := (rrR t).1) (by rw [← c])
 obtain ⟨hT, _⟩ := square_tab h1
 have hb := allC_bd hT.len h2
 exact po_l1 hT l1 b1 _ hb.1 (by omega) h3 t.length 0 (by omega)
theorem po_l0 {n : Nat} {t : List (List Int)} (hT : Tab t) (hn : t.length = n) (l1 : List Int) (b1 : Bytes l1) {q : List Int} (hq : PlgIn n t q) : ∀ (d i : Nat), i + d = n → Ev (fun k => laws_FnPlacingsOrRows.l0 k l1 t (rrR t).1 (rrR t).2 q (q.length : Int) (i : Int)) true
 | 0, i, e => by
  have hl := hq.len
  refine Ev.succ ?_
  simp only [laws_FnPlacingsOrRows.l0, if_neg (show ¬ (i : Int) < (q.length : Int) by omega)]
  exact po_j3 t l1 b1
 | d + 1, i, e => by
  have hl := hq.len
  have h6 := hT.len
  have hi : i < q.length := by omega
  obtain ⟨j, hj, hje⟩ := plg_rd hq.plg (show i < n by omega)
  have hp := hq.pos i (by omega)
  unfold entP at hp
  rw [hje, Int.toNat_natCast] at hp
  have hp2 : 0 < rd (rd_L1 t (i : Int)) (j : Int) := hp
  have hrl := tab_rowlen hT (show i < t.length by omega)
  refine Ev.succ ?_
  simp only [laws_FnPlacingsOrRows.l0, if_pos (show (i : Int) < (q.length : Int) by omega), if_pos (show (0 : Int) ≤ (i : Int) by omega), if_pos (show (i : Int) < (t.length : Int) by omega), hje, if_pos (show (0 : Int) ≤ (j : Int) by omega), if_pos (show (j : Int) < ((rd_L1 t (i : Int)).length : Int) by rw [hrl]; omega), if_neg (show ¬ rd (rd_L1 t (i : Int)) (j : Int) < 1 by omega), wsucc hi (by omega)]
  exact po_l0 hT hn l1 b1 hq d (i + 1) (by omega)
theorem po_j0 (t : List (List Int)) (l1 : List Int) (b1 : Bytes l1) : Ev (fun k => laws_FnPlacingsOrRows.j0 k l1 t (fpR t).1 (fpR t).2 (rrR t).1 (rrR t).2 false) true := by
 refine Ev.succ ?_
 simp only [laws_FnPlacingsOrRows.j0, Bool.false_eq_true, if_false]
 refine Ev.ite' (fun c => ?_) (fun _ => po_j3 t l1 b1)
 have hq : squareB t = true := by
  cases h : squareB t with
  | true => rfl
  | false => unfold fpR at c; rw [h] at c; simp at c
 obtain ⟨hT, h1⟩ := square_tab hq
 have h6 := hT.len
 cases hp : plc t t.length [] with
 | nil => unfold fpR at c; rw [if_pos hq, hp] at c; simp at c
 | cons q r =>
  have hf : fpR t = (q, true) := by unfold fpR; rw [if_pos hq, hp]
  have hg := plc_good rfl (fun i hi => tab_rowlen hT hi) t.length [] q (by simp) List.nodup_nil (by simp) (by simp) (by rw [hp]; exact List.mem_cons_self)
  have hl := hg.len
  rw [hf]
  dsimp only
  refine Ev.bind (implIsPlacing_ev q (by omega)) ?_
  rw [plg_place hg.plg h1 h6]
  simp only [if_true]
  have hne : ((q.length : Int) != (t.length : Int)) = false := by rw [hl]; simp
  rw [hne]
  refine Ev.succ ?_
  simp only [laws_FnPlacingsOrRows.j1, Bool.false_eq_true, if_false]
  exact po_l0 hT rfl l1 b1 hg t.length 0 (by omega)
theorem po_facts (t : List (List Int)) : (cpR t).2 = squareB t ∧ (squareB t = false → (fpR t).2 = false ∧ (rrR t).2 = false ∧ (cpR t).1 = 0) ∧ (squareB t = true → (fpR t).2 = !(rrR t).2 ∧ (fpR t).2 = decide ((cpR t).1 > 0)) := by
 refine ⟨?_, fun h => ?_, fun h => ?_⟩
 · unfold cpR
   cases squareB t <;> rfl
 · unfold fpR rrR cpR
   rw [h]
   exact ⟨rfl, rfl, rfl⟩
 · have ho := pl_or h
   unfold fpR rrR cpR
   rw [if_pos h, if_pos h, if_pos h]
   cases hp : plc t t.length [] with
   | nil =>
    obtain ⟨c, hc⟩ := ho.1 hp
    rw [hc]
    exact ⟨rfl, rfl⟩
   | cons q r =>
    have : refO t = none := by
     cases hr : refO t with
     | none => rfl
     | some c => rw [ho.2 ⟨c, hr⟩] at hp; cases hp
    rw [this]
    refine ⟨rfl, ?_⟩
    symm
    dsimp only
    rw [decide_eq_true_eq, List.length_cons]
    omega
theorem FnPlacingsOrRows : laws_FnPlacingsOrRows.Pure := by
 intro l0 l1 _ g0 x0 _ g1 x1
 apply Ev.get
 unfold laws_FnPlacingsOrRows.f
 rcases big_cut l0 l1 g0 x0 x1 with hb | ⟨hb, b0, b1⟩
 · simp only [hb, Option.bind_some, if_true]
   exact Ev.now _
 · simp only [hb, Option.bind_some, Bool.false_eq_true, if_false]
   obtain ⟨t, e, ht⟩ := drawFirst_ev l0 b0
   have k1 := ht.tot
   have kf := fpR_bd t
   have kr := rrR_bd t
   obtain ⟨f1, f2, f3⟩ := po_facts t
   refine Ev.bind e ?_
   simp only [implFirstPlacing_eq t k1.1 k1.2, implRefusingRows_eq t k1.1 k1.2, implCountPlacings_eq t k1.1 k1.2, implIsSquare_eq t k1.1 k1.2, Option.bind_some]
   refine Ev.bind (specFirstPlacing_ev t k1.1 k1.2) (Ev.bind (specRefusingRows_ev t k1.1 k1.2) (Ev.bind (specCountPlacings_ev t k1.1 k1.2) ?_))
   simp only [bne_self_eq_false, Bool.false_eq_true, if_false]
   refine Ev.bind (ySame_self _ (by omega)) ?_
   simp only [if_true]
   refine Ev.bind (ySame_self _ (by omega)) ?_
   simp only [if_true, f1, bne_self_eq_false, Bool.false_eq_true, if_false]
   have J := po_j0 t l1 b1
   cases hs : squareB t with
   | false =>
    obtain ⟨g1, g2, g3⟩ := f2 hs
    rw [g1, g2] at J ⊢
    rw [g3]
    simpa using J
   | true =>
    obtain ⟨g1, g2⟩ := f3 hs
    cases hr : (rrR t).2 with
    | true =>
     rw [hr] at g1 J
     rw [show (!true) = false from rfl] at g1
     rw [g1] at J g2 ⊢
     rw [← g2]
     simpa using J
    | false =>
     rw [hr] at g1 J
     rw [show (!false) = true from rfl] at g1
     rw [g1] at J g2 ⊢
     rw [← g2]
     simpa using J
end Go.Proofs.YtgcgecbdmomceaaDoor.Pure
