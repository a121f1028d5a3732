/- What the law FnExactRefusingRows reaches, part 2: Lean functions with the same answers as the Go functions, the proofs that the Go code comes to these answers, and lemmas about them; no condition beyond those that each theorem names. -/
import Derived.WalkKit
import Derived.ProofKit
import Derived.OpenShut
import Derived.Deep.Matrix
import Derived.Lib.SmallJoins
import Derived.Test.YtgcgecbdmomceaaDoorCFnExactRefusingRows1
namespace Go.Proofs.YtgcgecbdmomceaaDoor.A
open Go.RowKit Go.Proofs.YtgcgecbdmomceaaDoorW.PrintWords Go.Proofs.YtgcgecbdmomceaaDoorW.PrintLast Go.Proofs.YtgcgecbdmomceaaDoorW.PrintMore
set_option linter.unusedVariables false
set_option linter.unusedSimpArgs false
/-! RefusingRows -/
theorem refu_l1 {t : List (List Int)} (hT : Tab t) (rows : List Int) (hr : ∀ x ∈ rows, 0 ≤ x ∧ x < (t.length : Int)) (hl : rows.length ≤ 100) (j : Nat) (hj : j < t.length) (c : Int) {r : Bool} (h1 : colHas t rows j = true → Ev (fun k => spec_doRefuses.l0 k t rows (wrap64 (c + 1)) (t.length : Int) (wrap64 ((j : Int) + 1))) r) (h0 : colHas t rows j = false → Ev (fun k => spec_doRefuses.l0 k t rows c (t.length : Int) (wrap64 ((j : Int) + 1))) r) : ∀ (d i : Nat) (has : Bool), i + d = rows.length → (has || (rows.drop i).any fun x => decide (0 < rd (rd_L1 t x) (j : Int))) = colHas t rows j → Ev (fun k => spec_doRefuses.l1 k t rows c (j : Int) has (t.length : Int) (j : Int) rows (rows.length : Int) (i : Int)) r
  | 0, i, has, hi, hc => by
    rw [List.drop_eq_nil_of_le (by omega), List.any_nil, Bool.or_false] at hc
    refine Ev.succ ?_
    simp only [spec_doRefuses.l1, if_neg (show ¬ (i : Int) < (rows.length : Int) by omega)]
    cases has with
    | true =>
      simp only [if_true]
      exact h1 hc.symm
    | false =>
      simp only [Bool.false_eq_true, if_false]
      exact h0 hc.symm
  | d + 1, i, has, hi, hc => by
    have hi2 : i < rows.length := by omega
    have hb := hr _ (List.getElem_mem hi2)
    rw [List.drop_eq_getElem_cons hi2, List.any_cons] at hc
    refine Ev.succ ?_
    simp only [spec_doRefuses.l1, if_pos (show (i : Int) < (rows.length : Int) by omega), if_pos (show (0 : Int) ≤ (i : Int) by omega), rdn hi2, wsucc hi2 (by omega)]
    cases has with
    | true =>
      simp only [if_true]
      exact refu_l1 hT rows hr hl j hj c h1 h0 d (i + 1) true (by omega) (by rw [← hc]; simp)
    | false =>
      obtain ⟨a, ha⟩ := Int.eq_ofNat_of_zero_le hb.1
      have hal : a < t.length := by omega
      have hrl := tab_rowlen hT hal
      simp only [Bool.false_eq_true, if_false, if_pos hb.1, if_pos hb.2, if_pos (show (0 : Int) ≤ (j : Int) by omega), if_pos (show (j : Int) < ((rd_L1 t rows[i]).length : Int) by rw [ha, hrl]; omega)]
      exact refu_l1 hT rows hr hl j hj c h1 h0 d (i + 1) (decide (0 < rd (rd_L1 t rows[i]) (j : Int))) (by omega) (by rw [← hc]; simp)
theorem refu_l0 {t : List (List Int)} (hT : Tab t) (rows : List Int) (hr : ∀ x ∈ rows, 0 ≤ x ∧ x < (t.length : Int)) (hl : rows.length ≤ 100) : ∀ (d j : Nat), j + d = t.length → Ev (fun k => spec_doRefuses.l0 k t rows ((colsOf t rows j : Nat) : Int) (t.length : Int) (j : Int)) (refuB t rows)
  | 0, j, hj => by
    refine Ev.succ ?_
    simp only [spec_doRefuses.l0, if_neg (show ¬ (j : Int) < (t.length : Int) by omega)]
    have e : j = t.length := by omega
    subst e
    have : decide (((colsOf t rows t.length : Nat) : Int) < (rows.length : Int)) = refuB t rows := by
      unfold refuB
      rw [decide_eq_decide]
      omega
    rw [this]
    exact Ev.now _
  | d + 1, j, hj => by
    have h6 := hT.len
    have hle := colsOf_le t rows j
    have hs := colsOf_succ t rows j
    have hj2 : j < t.length := by omega
    refine Ev.succ ?_
    simp only [spec_doRefuses.l0, if_pos (show (j : Int) < (t.length : Int) by omega)]
    have ih := refu_l0 hT rows hr hl d (j + 1) (by omega)
    refine refu_l1 hT rows hr hl j hj2 _ (fun h => ?_) (fun h => ?_) rows.length 0 false (by omega) (by rw [List.drop_zero, Bool.false_or]; rfl)
    · rw [h, if_pos rfl] at hs
      rw [wsucc (n := 100) (by omega) (by omega), wsucc hj2 (by omega), ← hs]
      exact ih
    · rw [h, if_neg (by simp)] at hs
      have hs2 : colsOf t rows j = colsOf t rows (j + 1) := by omega
      rw [wsucc hj2 (by omega), hs2]
      exact ih
theorem doRefuses_ev {t : List (List Int)} (hT : Tab t) (rows : List Int) (hr : ∀ x ∈ rows, 0 ≤ x ∧ x < (t.length : Int)) (hl : rows.length ≤ 100) : Ev (fun k => spec_doRefuses.f k t rows) (refuB t rows) := refu_l0 hT rows hr hl t.length 0 (by omega)
def outC (rows : List Int) : Option (List Int) → List Int
  | none => []
  | some c => rows ++ c
theorem doRows_ev {t : List (List Int)} (hT : Tab t) : ∀ (m d i : Nat) (rows : List Int), i + d = t.length → (∀ x ∈ rows, 0 ≤ x ∧ x < (t.length : Int)) → rows.length + m ≤ 50 → 1 ≤ rows.length + m → Ev (fun k => spec_doRows.f k t rows (i : Int) (m : Int)) (outC rows ((cmb d m i).find? fun c => refuB t (rows ++ c)))
  | 0, d, i, rows, hi, hr, hl, h1 => by
    refine Ev.succ ?_
    have hc : cmb d 0 i = [[]] := by cases d <;> rfl
    rw [hc]
    simp only [spec_doRows.f, Int.ofNat_zero, if_true]
    refine Ev.bind (doRefuses_ev hT rows hr (by omega)) ?_
    rw [List.find?_cons, List.append_nil]
    cases refuB t rows with
    | true =>
      simp only [if_true, outC, List.append_nil]
      exact Ev.now _
    | false =>
      simp only [Bool.false_eq_true, if_false, List.find?_nil, outC]
      exact Ev.now _
  | m + 1, d, i, rows, hi, hr, hl, h1 => by
    have loop : ∀ (d i : Nat), i + d = t.length → Ev (fun k => spec_doRows.l0 k t rows ((m + 1 : Nat) : Int) (i : Int)) (outC rows ((cmb d (m + 1) i).find? fun c => refuB t (rows ++ c))) := by
      intro d
      induction d with
      | zero =>
        intro i hi
        refine Ev.succ ?_
        simp only [spec_doRows.l0, if_neg (show ¬ (i : Int) < (t.length : Int) by omega), cmb, List.find?_nil, outC]
        exact Ev.now _
      | succ d ih =>
        intro i hi
        have h6 := hT.len
        have hi2 : i < t.length := by omega
        refine Ev.succ ?_
        simp only [spec_doRows.l0, if_pos (show (i : Int) < (t.length : Int) by omega), l1Own_eq rows (by omega), Option.bind_some, if_pos (show rows.length < 17592186044416 by omega), wsucc hi2 (by omega), show wrap64 (((m + 1 : Nat) : Int) - 1) = (m : Int) by rw [w64 (by omega) (by omega)]; omega]
        refine Ev.bind (doRows_ev hT m d (i + 1) (rows ++ [(i : Int)]) (by omega) (fun x hx => by
          rcases List.mem_append.1 hx with h | h
          · exact hr x h
          · rw [List.mem_singleton.1 h]; omega) (by rw [List.length_append, List.length_singleton]; omega) (by rw [List.length_append, List.length_singleton]; omega)) ?_
        have hcm : cmb (d + 1) (m + 1) i = (cmb d m (i + 1)).map ((i : Int) :: ·) ++ cmb d (m + 1) (i + 1) := rfl
        rw [hcm, List.find?_append, List.find?_map]
        have hq : ((fun c => refuB t (rows ++ c)) ∘ fun x => (i : Int) :: x) = fun c => refuB t ((rows ++ [(i : Int)]) ++ c) := by
          funext c
          simp
        rw [hq]
        cases hf : (cmb d m (i + 1)).find? (fun c => refuB t ((rows ++ [(i : Int)]) ++ c)) with
        | none =>
          refine Ev.ite' (fun c => absurd c (by simp [outC])) (fun _ => ?_)
          simp only [Option.map_none, Option.none_or]
          exact ih (i + 1) (by omega)
        | some c =>
          have e : outC rows (((some c).map fun x => (i : Int) :: x).or ((cmb d (m + 1) (i + 1)).find? fun c => refuB t (rows ++ c))) = outC (rows ++ [(i : Int)]) (some c) := by simp [outC]
          rw [e]
          refine Ev.ite' (fun _ => Ev.now _) (fun h => absurd (show ((outC (rows ++ [(i : Int)]) (some c)).length : Int) > 0 by simp only [outC, List.length_append, List.length_singleton]; omega) h)
    refine Ev.succ ?_
    simp only [spec_doRows.f, if_neg (show ¬ ((m + 1 : Nat) : Int) = 0 by omega)]
    exact loop d i hi
def rrO : Option (List Int) → List Int × Bool
  | none => ([], false)
  | some p => (p, true)
def rrR (l : List (List Int)) : List Int × Bool := if squareB l = true then rrO (refO l) else ([], false)
theorem rr_l0 {t : List (List Int)} (hT : Tab t) : ∀ (d kk : Nat), kk + d = t.length + 1 → 1 ≤ kk → Ev (fun k => spec_RefusingRows.l0 k t (kk : Int)) (rrO (((List.range' kk d).flatMap fun k => cmb t.length k 0).find? (refuB t)))
  | 0, kk, hk, h1 => by
    refine Ev.succ ?_
    simp only [spec_RefusingRows.l0, if_neg (show ¬ (kk : Int) ≤ (t.length : Int) by omega)]
    exact Ev.now _
  | d + 1, kk, hk, h1 => by
    have h6 := hT.len
    refine Ev.succ ?_
    simp only [spec_RefusingRows.l0, if_pos (show (kk : Int) ≤ (t.length : Int) by omega), wsucc (show kk < 100 by omega) (by omega)]
    refine Ev.bind (doRows_ev hT kk t.length 0 [] (by omega) (by simp) (by simp only [List.length_nil]; omega) (by simp only [List.length_nil]; omega)) ?_
    rw [show List.range' kk (d + 1) = kk :: List.range' (kk + 1) d from rfl, List.flatMap_cons, List.find?_append]
    have hq : (fun c => refuB t (([] : List Int) ++ c)) = refuB t := by
      funext c
      rw [List.nil_append]
    rw [hq]
    cases hf : (cmb t.length kk 0).find? (refuB t) with
    | none =>
      refine Ev.ite' (fun c => absurd c (by simp [outC])) (fun _ => ?_)
      rw [Option.none_or]
      exact rr_l0 hT d (kk + 1) (by omega) (by omega)
    | some c =>
      have hc := List.find?_some hf
      have hc2 : colsOf t c t.length < c.length := of_decide_eq_true hc
      rw [Option.some_or]
      refine Ev.ite' (fun _ => Ev.now _) (fun h => absurd (show ((outC [] (some c)).length : Int) > 0 by simp only [outC, List.nil_append]; omega) h)
theorem specRefusingRows_ev (l0 : List (List Int)) (u0 : l0.length ≤ 1048576) (v0 : totSS l0 ≤ 1048576) : Ev (fun k => spec_RefusingRows.f k l0) (rrR l0) := by
  unfold spec_RefusingRows.f rrR
  refine Ev.bind (doGood_ev l0 u0 v0) (Ev.ite (fun h => ?_) (fun _ => Ev.now _))
  obtain ⟨hT, h1⟩ := square_tab h
  have := rr_l0 hT l0.length 1 (by omega) (by omega)
  rw [refO_find l0 hT.len]
  exact this
theorem implRefusingRows_eq (l0 : List (List Int)) (u0 : l0.length ≤ 1048576) (v0 : totSS l0 ≤ 1048576) : impl_RefusingRows.f l0 = some (rrR l0) := by
  unfold impl_RefusingRows.f rrR
  rw [implIsSquare_eq l0 u0 v0, Option.bind_some]
  cases squareB l0 with
  | false => rfl
  | true =>
    rw [if_pos rfl, if_pos rfl]
    cases refO l0 <;> rfl
theorem rr_some {l : List (List Int)} {p : List Int} (h : rrR l = (p, true)) : squareB l = true ∧ p ∈ allC l.length ∧ colsOf l p l.length < p.length := by
  unfold rrR at h
  split at h
  · next hq =>
    obtain ⟨hT, _⟩ := square_tab hq
    rw [refO_find l hT.len] at h
    cases hf : (allC l.length).find? (refuB l) with
    | none => rw [hf] at h; simp [rrO] at h
    | some c =>
      rw [hf] at h
      have e : c = p := by simpa [rrO] using h
      subst e
      have h2 : refuB l c = true := List.find?_some hf
      exact ⟨hq, List.mem_of_find?_eq_some hf, of_decide_eq_true h2⟩
  · simp at h
theorem all_bd : ∀ n : Fin 7, (allC n.val).all (fun c => c.all (fun x => decide (0 ≤ x ∧ x < (n.val : Int))) && decide (c.length ≤ 6) && decide c.Nodup) = true := by decide +kernel
theorem allC_bd {n : Nat} (h : n ≤ 6) {c : List Int} (hc : c ∈ allC n) : (∀ x ∈ c, 0 ≤ x ∧ x < (n : Int)) ∧ c.length ≤ 6 ∧ c.Nodup := by
  have := all_bd ⟨n, by omega⟩
  dsimp only at this
  rw [List.all_eq_true] at this
  have := this c hc
  rw [Bool.and_eq_true, Bool.and_eq_true, List.all_eq_true, decide_eq_true_eq, decide_eq_true_eq] at this
  exact ⟨fun x hx => of_decide_eq_true (this.1.1 x hx), this.1.2, this.2⟩
theorem rrR_bd (l : List (List Int)) : (rrR l).1.length ≤ 1000 := by
  cases hb : (rrR l).2 with
  | false =>
    unfold rrR at hb ⊢
    split
    · next h =>
      rw [if_pos h] at hb
      cases hr : refO l with
      | none => simp [rrO]
      | some p => rw [hr] at hb; simp [rrO] at hb
    · simp
  | true =>
    obtain ⟨h1, h2, _⟩ := rr_some (l := l) (p := (rrR l).1) (by rw [← hb])
    have := allC_bd (square_tab h1).1.len h2
    omega
end Go.Proofs.YtgcgecbdmomceaaDoor.A

namespace Go.Proofs.YtgcgecbdmomceaaDoor.A
open Go.RowKit Go.Proofs.YtgcgecbdmomceaaDoorW.PrintWords Go.Proofs.YtgcgecbdmomceaaDoorW.PrintLast Go.Proofs.YtgcgecbdmomceaaDoorW.PrintMore
set_option linter.unusedVariables false
set_option linter.unusedSimpArgs false
theorem toIntS_l (xs : List Int) (hx : xs.length ≤ 35184372088832) : ∀ (n i : Nat) (ys : List Int), i + n = xs.length → ys.length = xs.length → ys.take i = xs.take i → Ev (fun k => laws_toIntS.l0 k xs ys (i : Int)) xs
  | 0, i, ys, h, hl, ht => by
    refine Ev.succ ?_
    simp only [laws_toIntS.l0, if_neg (show ¬ (i : Int) < (xs.length : Int) by omega)]
    rw [List.take_of_length_le (by omega), List.take_of_length_le (by omega)] at ht
    rw [ht]
    exact Ev.now _
  | n + 1, i, ys, h, hl, ht => by
    have hi : i < xs.length := by omega
    refine Ev.succ ?_
    simp only [laws_toIntS.l0, if_pos (show (i : Int) < (xs.length : Int) by omega), if_pos (show (i : Int) < (ys.length : Int) by omega), if_pos (show (0 : Int) ≤ (i : Int) by omega), rdn hi, wsucc hi (by omega), Int.toNat_natCast]
    refine toIntS_l xs hx n (i + 1) _ (by omega) (by rw [List.length_set]; exact hl) ?_
    rw [List.take_add_one, List.take_add_one, List.take_set_of_le (Nat.le_refl _), ht]
    congr 1
    rw [List.getElem?_set_self (by omega), List.getElem?_eq_getElem hi]
theorem toIntS_ev (xs : List Int) (hx : xs.length ≤ 35184372088832) : Ev (fun k => laws_toIntS.f k xs) xs := by
  unfold laws_toIntS.f
  simp only [if_pos (show (0 : Int) ≤ (xs.length : Int) by omega), Int.toNat_natCast, if_pos hx]
  exact toIntS_l xs hx xs.length 0 _ (by omega) (by simp) (by simp)
end Go.Proofs.YtgcgecbdmomceaaDoor.A

namespace Go.Proofs.YtgcgecbdmomceaaDoor.A
open Go.RowKit Go.Proofs.YtgcgecbdmomceaaDoorW.PrintWords Go.Proofs.YtgcgecbdmomceaaDoorW.PrintLast Go.Proofs.YtgcgecbdmomceaaDoorW.PrintMore
set_option linter.unusedVariables false
set_option linter.unusedSimpArgs false
theorem szIntS_eq (x : List Int) (s : Int) (hx : x.length ≤ 9223372036854775807) (h0 : 0 ≤ s) (h1 : s ≤ 1048576) : laws_szIntS.f x s = some (if s - (x.length : Int) < 0 then -1 else s - (x.length : Int)) := by
  unfold laws_szIntS.f
  rw [w64 (x := s - (x.length : Int)) (by omega) (by omega)]
  split <;> rfl
theorem toIntSS_l (l : List (List Int)) (hl : l.length ≤ 1048576) (hx : ∀ x ∈ l, x.length ≤ 1048576) : ∀ (n i : Nat) (ys : List (List Int)), i + n = l.length → ys.length = l.length → ys.take i = l.take i → Ev (fun k => laws_toIntSS.l0 k l ys (i : Int)) l
  | 0, i, ys, h, hy, ht => by
    refine Ev.succ ?_
    simp only [laws_toIntSS.l0, if_neg (show ¬ (i : Int) < (l.length : Int) by omega)]
    rw [List.take_of_length_le (by omega), List.take_of_length_le (by omega)] at ht
    rw [ht]
    exact Ev.now _
  | n + 1, i, ys, h, hy, ht => by
    have hi : i < l.length := by omega
    refine Ev.succ ?_
    simp only [laws_toIntSS.l0, if_pos (show (i : Int) < (l.length : Int) by omega), if_pos (show (i : Int) < (ys.length : Int) by omega), if_pos (show (0 : Int) ≤ (i : Int) by omega), rd_L1n hi, wsucc hi (by omega), Int.toNat_natCast]
    refine Ev.bind (toIntS_ev l[i] (by have := hx _ (List.getElem_mem hi); omega)) ?_
    refine toIntSS_l l hl hx n (i + 1) _ (by omega) (by rw [List.length_set]; exact hy) ?_
    rw [List.take_add_one, List.take_add_one, List.take_set_of_le (Nat.le_refl _), ht]
    congr 1
    rw [List.getElem?_set_self (by omega), List.getElem?_eq_getElem hi]
theorem toIntSS_ev (l : List (List Int)) (hl : l.length ≤ 1048576) (hx : totSS l ≤ 1048576) : Ev (fun k => laws_toIntSS.f k l) l := by
  unfold laws_toIntSS.f
  simp only [if_pos (show (0 : Int) ≤ (l.length : Int) by omega), Int.toNat_natCast, if_pos (show l.length ≤ 11728124029610 by omega)]
  exact toIntSS_l l hl (fun x h => Nat.le_trans (len_tot h) hx) l.length 0 _ (by omega) (by simp) (by simp)
end Go.Proofs.YtgcgecbdmomceaaDoor.A

namespace Go.Proofs.YtgcgecbdmomceaaDoor.A
open Go.RowKit Go.Proofs.YtgcgecbdmomceaaDoorW.PrintWords Go.Proofs.YtgcgecbdmomceaaDoorW.PrintLast Go.Proofs.YtgcgecbdmomceaaDoorW.PrintMore
set_option linter.unusedVariables false
set_option linter.unusedSimpArgs false
theorem szGen_l (l : List (List Int)) (hl : l.length ≤ 9223372036854775807) (hx : ∀ x ∈ l, x.length ≤ 9223372036854775807) : ∀ (n i : Nat) (s : Int), i + n = l.length → 0 ≤ s → s ≤ 1048576 → ∃ r, Ev (fun k => laws_szIntSS.l0 k l s (i : Int)) r ∧ (0 ≤ r → (totSS (l.drop i) : Int) ≤ s ∧ r ≤ s)
  | 0, i, s, h, h0, h1 => by
    refine ⟨s, Ev.succ ?_, fun _ => ?_⟩
    · simp only [laws_szIntSS.l0, if_neg (show ¬ (i : Int) < (l.length : Int) by omega)]
      exact Ev.now _
    · rw [List.drop_eq_nil_of_le (by omega)]
      exact ⟨by simpa [totSS] using h0, Int.le_refl _⟩
  | n + 1, i, s, h, h0, h1 => by
    have hi : i < l.length := by omega
    have hxi := hx _ (List.getElem_mem hi)
    have hd : totSS (l.drop i) = (l[i]).length + totSS (l.drop (i + 1)) := by
      unfold totSS
      rw [List.drop_eq_getElem_cons hi, List.map_cons, List.sum_cons]
    by_cases hc : s - ((l[i]).length : Int) < 0
    · refine ⟨-1, Ev.succ ?_, fun h => by omega⟩
      simp only [laws_szIntSS.l0, if_pos (show (i : Int) < (l.length : Int) by omega), if_pos (show (0 : Int) ≤ (i : Int) by omega), rd_L1n hi, szIntS_eq _ s hxi h0 h1, if_pos hc, Option.bind_some, if_pos (show (-1 : Int) < 0 by decide)]
      exact Ev.now _
    · obtain ⟨r, hr, hr2⟩ := szGen_l l hl hx n (i + 1) (s - ((l[i]).length : Int)) (by omega) (by omega) (by omega)
      refine ⟨r, Ev.succ ?_, fun h => by have := hr2 h; omega⟩
      simp only [laws_szIntSS.l0, if_pos (show (i : Int) < (l.length : Int) by omega), if_pos (show (0 : Int) ≤ (i : Int) by omega), rd_L1n hi, szIntS_eq _ s hxi h0 h1, if_neg hc, Option.bind_some, wsucc hi (by omega)]
      exact hr
theorem szIntSS_gen (l : List (List Int)) (s : Int) (h0 : 0 ≤ s) (h1 : s ≤ 1048576) (hl : l.length ≤ 9223372036854775807) (hx : ∀ x ∈ l, x.length ≤ 9223372036854775807) : ∃ r, Ev (fun k => laws_szIntSS.f k l s) r ∧ (0 ≤ r → l.length ≤ 1048576 ∧ totSS l ≤ 1048576 ∧ r ≤ 1048576) := by
  unfold laws_szIntSS.f
  simp only [w64 (x := s - (l.length : Int)) (by omega) (by omega)]
  by_cases hc : s - (l.length : Int) < 0
  · refine ⟨-1, ?_, fun h => by omega⟩
    simp only [if_pos hc]
    exact Ev.now _
  · obtain ⟨r, hr, hr2⟩ := szGen_l l hl hx l.length 0 (s - (l.length : Int)) (by omega) (by omega) (by omega)
    refine ⟨r, ?_, fun h => ?_⟩
    · simp only [if_neg hc]
      exact hr
    · have := hr2 h
      rw [List.drop_zero] at this
      omega
end Go.Proofs.YtgcgecbdmomceaaDoor.A

namespace Go.Proofs.YtgcgecbdmomceaaDoor.A
open Go.RowKit Go.Proofs.YtgcgecbdmomceaaDoorW.PrintWords Go.Proofs.YtgcgecbdmomceaaDoorW.PrintLast Go.Proofs.YtgcgecbdmomceaaDoorW.PrintMore
set_option linter.unusedVariables false
set_option linter.unusedSimpArgs false
set_option maxHeartbeats 8000000 in
set_option maxRecDepth 100000 in
theorem FnExactRefusingRows_walk (A0 : Option Addr) (c0 : Nat) (l0 : List (List Int)) (W : World) (hr0 : Kd.C (Kd.slice 3 (Kd.int .i64)) W A0 l0.length l0) (hc0 : l0.length ≤ c0) (m0 : l0.length ≤ 9223372036854775807) (w0 : ∀ x ∈ l0, x.length ≤ 9223372036854775807 ∧ ∀ y ∈ x, (Lit.int .i64 y).wf = true) (hT : TabZ W) :
    Calls Tryd.prog 3 #[.slice A0 l0.length c0] W fun e w' => e = .returned (.bool true) ∧ Below W.heap.size W w' := by
  have HR0 := Aside0.mk hr0
  have HC0 := Aside0.mk hc0
  have HT := Aside0.mk hT
  (try clear hT)
  have HB := Aside0.mk (Below.refl W.heap.size W)
  (try clear hr0); (try clear hc0)
  obtain ⟨Z0, hz0, hzb0⟩ := szIntSS_gen l0 1048576 (by omega) (by omega) m0 (fun x h => (w0 x h).1)
  obtain ⟨kz0, hy0⟩ := Ev.get hz0
  have AZ0 := Aside0.mk hy0
  (try clear hz0); (try clear hy0)
  by_cases q0 : Z0 < 0
  · have q0b : decide (Z0 < 0) = true := decide_eq_true q0
    (try clear q0); (try clear m0); (try clear w0); (try clear hzb0)
    go_enter Tryd.func3, Tryd.ntmps3
    go_wp2_with (first | ((with_reducible refine gate_callee (f := 5) rfl ?_); refine goesL_ (some 16) rfl rfl Tryd.func5 (by kernel_rfl) rfl #[.slice A0 l0.length c0, .int .i64 1048576] rfl (by (try simp only [List.map_toArray, List.map_cons, List.map_nil]); first | done | rfl | (simp only [List.length_drop, List.length_take]; rfl)) ?_; (with_reducible refine (laws_szIntSS.calls kz0 _ _ l0 1048576 Z0 _ ?side1 ?side2 AZ0.out).mono ?_); (case side1 => exact (Kd.C_below HR0.out (by repeat (first | (with_reducible first | exact HB.out | apply below_alloc | apply pw_below_drewN | apply below_drew1) | exact HB.out)))); (case side2 => exact HC0.out); rintro e w' ⟨rfl, ⟨nd, rfl⟩⟩; refine ⟨_, rfl, ?_⟩))
    go_ret
    exact ⟨rfl, (by repeat (first | (with_reducible first | exact HB.out | apply below_alloc | apply pw_below_drewN | apply below_drew1) | exact HB.out))⟩
  have q0b : decide (Z0 < 0) = false := decide_eq_false q0
  obtain ⟨u0, v0, s0⟩ := hzb0 (by omega)
  obtain ⟨kt0, ht0⟩ := Ev.get (toIntSS_ev l0 u0 v0)
  have AT0 := Aside0.mk ht0
  obtain ⟨kS, hS⟩ := Ev.get (specRefusingRows_ev l0 u0 v0)
  have hI := implRefusingRows_eq l0 u0 v0
  have hbd := rrR_bd l0
  generalize rrR l0 = R at hS hI hbd
  obtain ⟨L0, b⟩ := R
  simp only at hbd
  have AS := Aside0.mk hS
  have AI := Aside0.mk hI
  have hbb : (b != b) = false := by simp
  obtain ⟨kAE0, hAE0⟩ := Ev.get (eqIntS_self L0 (by omega))
  obtain ⟨kAE1, hAE1⟩ := Ev.get (eqIntSS_self l0 (by omega) (by omega))
  obtain ⟨T0, hT0⟩ : ∃ T : Int, T = 1 + (totSS l0 : Int) := ⟨_, rfl⟩
  have hAK0 := fun (v : Value) (W W' : World) (P : Nat → Prop) (hB : Below W.heap.size W W') (hS : Kd.S (Kd.slice 3 (Kd.int .i64)) 24 W' W.heap.size P v l0) => markSS_calls mark_any P v l0 1 W W' (by omega) (by omega) (by omega) hB hS
  rw [← hT0] at hAK0
  have qT0 : decide (T0 < 0) = false := decide_eq_false (by omega)
  have qT0n : (T0 != T0) = false := by simp
  obtain ⟨T1, hT1⟩ : ∃ T : Int, T = 1 + (L0.length : Int) := ⟨_, rfl⟩
  obtain ⟨kAK1, hAK1⟩ := Ev.get (markIntS_ev L0 1 (by omega) (by omega))
  rw [← hT1] at hAK1
  obtain ⟨M1, hM1⟩ : ∃ M, M = marks 1 L0.length := ⟨_, rfl⟩
  have hM1l : M1.length = L0.length := by rw [hM1, marks_length]
  rw [← hM1] at hAK1
  have qT1 : decide (T1 < 0) = false := decide_eq_false (by omega)
  have qT1n : (T1 != T1) = false := by simp
  obtain ⟨kAH1, hhAH1⟩ := Ev.get (heldIntS_ev 1 L0.length (by omega) (by omega))
  rw [← hM1, ← hT1] at hhAH1
  have hAH1 : ∀ (A : Option Addr) (c : Nat) (w' : World), (∃ P : Nat → Prop, Kd.R (Kd.int .i64) 3 w' W.heap.size P (.slice A L0.length c) M1) → Calls Tryd.prog 13 #[.slice A L0.length c, .int .i64 1] w' fun e w'' => e = .returned (.int .i64 T1) ∧ Drawn0 w' w'' := fun A c w' hS' => by
    obtain ⟨P, hS⟩ := hS'
    have h1 := (Kd.R_reads' hS).2
    rw [← hM1l] at h1 ⊢
    exact laws_heldIntS.calls kAH1 A c M1 1 T1 w' h1.2 h1.1 hhAH1
  have AE0 := Aside0.mk hAE0
  have AE1 := Aside0.mk hAE1
  have AK0 := Aside0.mk hAK0
  have AK1 := Aside0.mk hAK1
  have AH1 := Aside0.mk hAH1
  obtain ⟨n0, hn0⟩ : ∃ n, n = W.heap.size := ⟨_, rfl⟩
  have HN := Aside0.mk (Nat.le_of_eq hn0)
  (try clear hAE0); (try clear hAE1); (try clear hAK0); (try clear hAK1); (try clear hAH1); (try clear hhAH1); (try clear hT0); (try clear hT1); (try clear hM1); (try clear hM1l); (try clear hS); (try clear hI); (try clear hn0); (try clear hb0); (try clear ht0); (try clear m0); (try clear w0); (try clear u0); (try clear v0); (try clear s0); (try clear q0); (try clear hzb0)
  go_enter Tryd.func3, Tryd.ntmps3
  go_upto_region 5 with (first | ((with_reducible refine gate_callee (f := 5) rfl ?_); refine goesL_ (some 16) rfl rfl Tryd.func5 (by kernel_rfl) rfl #[.slice A0 l0.length c0, .int .i64 1048576] rfl (by (try simp only [List.map_toArray, List.map_cons, List.map_nil]); first | done | rfl | (simp only [List.length_drop, List.length_take]; rfl)) ?_; (with_reducible refine (laws_szIntSS.calls kz0 _ _ l0 1048576 Z0 _ ?side1 ?side2 AZ0.out).mono ?_); (case side1 => exact (Kd.C_below HR0.out (by repeat (first | (with_reducible first | exact HB.out | apply below_alloc | apply pw_below_drewN | apply below_drew1) | exact HB.out)))); (case side2 => exact HC0.out); rintro e w' ⟨rfl, ⟨nd, rfl⟩⟩; refine ⟨_, rfl, ?_⟩))
  go_upto_region 6 with (first | ((with_reducible refine gate_callee (f := 7) rfl ?_); refine goesL_ (some 21) rfl rfl Tryd.func7 (by kernel_rfl) rfl #[.slice A0 l0.length c0] rfl (by (try simp only [List.map_toArray, List.map_cons, List.map_nil]); first | done | rfl | (simp only [List.length_drop, List.length_take]; rfl)) ?_; (with_reducible refine (laws_toIntSS.calls kt0 _ _ l0 l0 _ ?side1 ?side2 AT0.out).mono ?_); (case side1 => exact (Kd.C_below HR0.out (by repeat (first | (with_reducible first | exact HB.out | apply below_alloc | apply pw_below_drewN | apply below_drew1) | exact HB.out)))); (case side2 => exact HC0.out); rintro e w1 ⟨vv0, rfl, ho0, hb⟩; refine ⟨_, rfl, ?_⟩; obtain ⟨n1, hn_⟩ : ∃ n, n = w1.heap.size := ⟨_, rfl⟩; have HLn1 := Aside0.mk (show n0 ≤ n1 from Nat.le_trans HN.out (Nat.le_trans hb.size (Nat.le_of_eq hn_.symm))); have HV0 := Aside0.mk (Kd.S_mono (ok' := fun k => n0 ≤ k ∧ k < n1) (Kd.S_lower (Kd.S_bound ho0) (below_size (by repeat (first | (with_reducible first | exact HB.out | apply below_alloc | apply pw_below_drewN | apply below_drew1) | exact HB.out)))) (fun k hk => ⟨Nat.le_trans HN.out hk.2.1, by have := hk.2.2.1; omega⟩)); have HB2 := Aside0.mk (below_step (by repeat (first | (with_reducible first | exact HB.out | apply below_alloc | apply pw_below_drewN | apply below_drew1) | exact HB.out)) hb); have HN2_ := Aside0.mk (Nat.le_of_eq hn_); clear HB HN hb hn_ ho0; have HB := HB2; have HN := HN2_; clear HB2 HN2_ ; obtain ⟨B0, cc0, es_⟩ := Kd.S_slice HV0.out; subst es_) | ((with_reducible refine gate_callee (f := 6) rfl ?_); refine goesL_ (some 22) rfl rfl Tryd.func6 (by kernel_rfl) rfl #[.slice B0 l0.length cc0] rfl (by (try simp only [List.map_toArray, List.map_cons, List.map_nil]); first | done | rfl | (simp only [List.length_drop, List.length_take]; rfl)) ?_; (with_reducible refine (spec_RefusingRows.calls kS _ _ l0 L0 b _ ?side1 ?side2 AS.out).mono ?_); (case side1 => exact (Kd.S_reads' (by (with_reducible repeat (first | apply Kd.S_alloc | apply Kd.S_drewN | apply Kd.S_drew)); exact HV0.out)).2.2); (case side2 => exact (Kd.S_reads' HV0.out).2.1); rintro e w2 ⟨vv0, rfl, ho0, hb⟩; refine ⟨_, rfl, ?_⟩; obtain ⟨n2, hn_⟩ : ∃ n, n = w2.heap.size := ⟨_, rfl⟩; have HLn2 := Aside0.mk (show n1 ≤ n2 from Nat.le_trans HN.out (Nat.le_trans hb.size (Nat.le_of_eq hn_.symm))); have HV1 := Aside0.mk (Kd.R_mono (ok' := fun k => n1 ≤ k ∧ k < n2) (Kd.R_lower (Kd.R_bound ho0) (below_size (by repeat (first | (with_reducible first | exact HB.out | apply below_alloc | apply pw_below_drewN | apply below_drew1) | exact HB.out)))) (fun k hk => ⟨Nat.le_trans HN.out hk.2.1, by have := hk.2.2.1; omega⟩)); have HV02 := Aside0.mk (Kd.S_below (by (with_reducible repeat (first | apply Kd.S_alloc | apply Kd.S_drewN | apply Kd.S_drew)); exact HV0.out) hb); have HB2 := Aside0.mk (below_step (by repeat (first | (with_reducible first | exact HB.out | apply below_alloc | apply pw_below_drewN | apply below_drew1) | exact HB.out)) hb); have HN2_ := Aside0.mk (Nat.le_of_eq hn_); clear HB HN hb hn_ ho0 HV0; have HB := HB2; have HN := HN2_; have HV0 := HV02; clear HB2 HN2_ HV02; obtain ⟨B1, cc1, es_⟩ := Kd.R_slice HV1.out; subst es_))
  go_upto_region 7 with (first | ((with_reducible refine gate_callee (f := 7) rfl ?_); refine goesL_ (some 26) rfl rfl Tryd.func7 (by kernel_rfl) rfl #[.slice A0 l0.length c0] rfl (by (try simp only [List.map_toArray, List.map_cons, List.map_nil]); first | done | rfl | (simp only [List.length_drop, List.length_take]; rfl)) ?_; (with_reducible refine (laws_toIntSS.calls kt0 _ _ l0 l0 _ ?side1 ?side2 AT0.out).mono ?_); (case side1 => exact (Kd.C_below HR0.out (by repeat (first | (with_reducible first | exact HB.out | apply below_alloc | apply pw_below_drewN | apply below_drew1) | exact HB.out)))); (case side2 => exact HC0.out); rintro e w3 ⟨vv0, rfl, ho0, hb⟩; refine ⟨_, rfl, ?_⟩; obtain ⟨n3, hn_⟩ : ∃ n, n = w3.heap.size := ⟨_, rfl⟩; have HLn3 := Aside0.mk (show n2 ≤ n3 from Nat.le_trans HN.out (Nat.le_trans hb.size (Nat.le_of_eq hn_.symm))); have HV2 := Aside0.mk (Kd.S_mono (ok' := fun k => n2 ≤ k ∧ k < n3) (Kd.S_lower (Kd.S_bound ho0) (below_size (by repeat (first | (with_reducible first | exact HB.out | apply below_alloc | apply pw_below_drewN | apply below_drew1) | exact HB.out)))) (fun k hk => ⟨Nat.le_trans HN.out hk.2.1, by have := hk.2.2.1; omega⟩)); have HV02 := Aside0.mk (Kd.S_below (by (with_reducible repeat (first | apply Kd.S_alloc | apply Kd.S_drewN | apply Kd.S_drew)); exact HV0.out) hb); have HV12 := Aside0.mk (Kd.R_below (by (with_reducible repeat (first | apply Kd.R_alloc | apply Kd.R_drewN | apply Kd.R_drew)); exact HV1.out) hb); have HB2 := Aside0.mk (below_step (by repeat (first | (with_reducible first | exact HB.out | apply below_alloc | apply pw_below_drewN | apply below_drew1) | exact HB.out)) hb); have HN2_ := Aside0.mk (Nat.le_of_eq hn_); clear HB HN hb hn_ ho0 HV0 HV1; have HB := HB2; have HN := HN2_; have HV0 := HV02; have HV1 := HV12; clear HB2 HN2_ HV02 HV12; obtain ⟨B2, cc2, es_⟩ := Kd.S_slice HV2.out; subst es_))
  go_upto_region 8 with (first | ((with_reducible refine gate_callee (f := 8) rfl ?_); refine goesL_ (some 29) rfl rfl Tryd.func8 (by kernel_rfl) rfl #[.slice B2 l0.length cc2] rfl (by (try simp only [List.map_toArray, List.map_cons, List.map_nil]); first | done | rfl | (simp only [List.length_drop, List.length_take]; rfl)) ?_; (with_reducible refine (impl_RefusingRows.calls _ _ l0 L0 b _ ?side1 ?side2 AI.out).mono ?_); (case side1 => exact (Kd.S_reads' (by (with_reducible repeat (first | apply Kd.S_alloc | apply Kd.S_drewN | apply Kd.S_drew)); exact HV2.out)).2.2); (case side2 => exact (Kd.S_reads' HV2.out).2.1); rintro e w4 ⟨vv0, rfl, ho0, hb⟩; refine ⟨_, rfl, ?_⟩; obtain ⟨n4, hn_⟩ : ∃ n, n = w4.heap.size := ⟨_, rfl⟩; have HLn4 := Aside0.mk (show n3 ≤ n4 from Nat.le_trans HN.out (Nat.le_trans hb.size (Nat.le_of_eq hn_.symm))); have HV3 := Aside0.mk (Kd.R_mono (ok' := fun k => n3 ≤ k ∧ k < n4) (Kd.R_lower (Kd.R_bound ho0) (below_size (by repeat (first | (with_reducible first | exact HB.out | apply below_alloc | apply pw_below_drewN | apply below_drew1) | exact HB.out)))) (fun k hk => ⟨Nat.le_trans HN.out hk.2.1, by have := hk.2.2.1; omega⟩)); have HV02 := Aside0.mk (Kd.S_below (by (with_reducible repeat (first | apply Kd.S_alloc | apply Kd.S_drewN | apply Kd.S_drew)); exact HV0.out) hb); have HV12 := Aside0.mk (Kd.R_below (by (with_reducible repeat (first | apply Kd.R_alloc | apply Kd.R_drewN | apply Kd.R_drew)); exact HV1.out) hb); have HV22 := Aside0.mk (Kd.S_below (by (with_reducible repeat (first | apply Kd.S_alloc | apply Kd.S_drewN | apply Kd.S_drew)); exact HV2.out) hb); have HB2 := Aside0.mk (below_step (by repeat (first | (with_reducible first | exact HB.out | apply below_alloc | apply pw_below_drewN | apply below_drew1) | exact HB.out)) hb); have HN2_ := Aside0.mk (Nat.le_of_eq hn_); clear HB HN hb hn_ ho0 HV0 HV1 HV2; have HB := HB2; have HN := HN2_; have HV0 := HV02; have HV1 := HV12; have HV2 := HV22; clear HB2 HN2_ HV02 HV12 HV22; obtain ⟨B3, cc3, es_⟩ := Kd.R_slice HV3.out; subst es_))
  go_upto_region 10 with (first | ((with_reducible refine gate_callee (f := 9) rfl ?_); refine goesL_ (some 34) rfl rfl Tryd.func9 (by kernel_rfl) rfl #[.slice B3 L0.length cc3, .slice B1 L0.length cc1] rfl (by (try simp only [List.map_toArray, List.map_cons, List.map_nil]); first | done | rfl | (simp only [List.length_drop, List.length_take]; rfl)) ?_; (with_reducible refine (laws_eqIntS.calls kAE0 _ _ L0 _ _ L0 true _ ?side1 ?side2 ?side3 ?side4 AE0.out).mono ?_); (case side1 => exact (Kd.R_reads' (by (with_reducible repeat (first | apply Kd.R_alloc | apply Kd.R_drewN | apply Kd.R_drew)); exact HV3.out)).2.2); (case side2 => exact (Kd.R_reads' HV3.out).2.1); (case side3 => exact (Kd.R_reads' (by (with_reducible repeat (first | apply Kd.R_alloc | apply Kd.R_drewN | apply Kd.R_drew)); exact HV1.out)).2.2); (case side4 => exact (Kd.R_reads' HV1.out).2.1); rintro e w' ⟨rfl, ⟨nd, rfl⟩⟩; refine ⟨_, rfl, ?_⟩))
  go_upto_region 13 with (first | ((with_reducible refine gate_callee (f := 7) rfl ?_); refine goesL_ (some 43) rfl rfl Tryd.func7 (by kernel_rfl) rfl #[.slice A0 l0.length c0] rfl (by (try simp only [List.map_toArray, List.map_cons, List.map_nil]); first | done | rfl | (simp only [List.length_drop, List.length_take]; rfl)) ?_; (with_reducible refine (laws_toIntSS.calls kt0 _ _ l0 l0 _ ?side1 ?side2 AT0.out).mono ?_); (case side1 => exact (Kd.C_below HR0.out (by repeat (first | (with_reducible first | exact HB.out | apply below_alloc | apply pw_below_drewN | apply below_drew1) | exact HB.out)))); (case side2 => exact HC0.out); rintro e w5 ⟨vv0, rfl, ho0, hb⟩; refine ⟨_, rfl, ?_⟩; obtain ⟨n5, hn_⟩ : ∃ n, n = w5.heap.size := ⟨_, rfl⟩; have HLn5 := Aside0.mk (show n4 ≤ n5 from Nat.le_trans HN.out (Nat.le_trans hb.size (Nat.le_of_eq hn_.symm))); have HV4 := Aside0.mk (Kd.S_mono (ok' := fun k => n4 ≤ k ∧ k < n5) (Kd.S_lower (Kd.S_bound ho0) (below_size (by repeat (first | (with_reducible first | exact HB.out | apply below_alloc | apply pw_below_drewN | apply below_drew1) | exact HB.out)))) (fun k hk => ⟨Nat.le_trans HN.out hk.2.1, by have := hk.2.2.1; omega⟩)); have HV02 := Aside0.mk (Kd.S_below (by (with_reducible repeat (first | apply Kd.S_alloc | apply Kd.S_drewN | apply Kd.S_drew)); exact HV0.out) hb); have HV12 := Aside0.mk (Kd.R_below (by (with_reducible repeat (first | apply Kd.R_alloc | apply Kd.R_drewN | apply Kd.R_drew)); exact HV1.out) hb); have HV22 := Aside0.mk (Kd.S_below (by (with_reducible repeat (first | apply Kd.S_alloc | apply Kd.S_drewN | apply Kd.S_drew)); exact HV2.out) hb); have HV32 := Aside0.mk (Kd.R_below (by (with_reducible repeat (first | apply Kd.R_alloc | apply Kd.R_drewN | apply Kd.R_drew)); exact HV3.out) hb); have HB2 := Aside0.mk (below_step (by repeat (first | (with_reducible first | exact HB.out | apply below_alloc | apply pw_below_drewN | apply below_drew1) | exact HB.out)) hb); have HN2_ := Aside0.mk (Nat.le_of_eq hn_); clear HB HN hb hn_ ho0 HV0 HV1 HV2 HV3; have HB := HB2; have HN := HN2_; have HV0 := HV02; have HV1 := HV12; have HV2 := HV22; have HV3 := HV32; clear HB2 HN2_ HV02 HV12 HV22 HV32; obtain ⟨B4, cc4, es_⟩ := Kd.S_slice HV4.out; subst es_) | ((with_reducible refine gate_callee (f := 10) rfl ?_); refine goesL_ (some 44) rfl rfl Tryd.func10 (by kernel_rfl) rfl #[.slice B2 l0.length cc2, .slice B4 l0.length cc4] rfl (by (try simp only [List.map_toArray, List.map_cons, List.map_nil]); first | done | rfl | (simp only [List.length_drop, List.length_take]; rfl)) ?_; (with_reducible refine (laws_eqIntSS.calls kAE1 _ _ l0 _ _ l0 true _ ?side1 ?side2 ?side3 ?side4 AE1.out).mono ?_); (case side1 => exact (Kd.S_reads' (by (with_reducible repeat (first | apply Kd.S_alloc | apply Kd.S_drewN | apply Kd.S_drew)); exact HV2.out)).2.2); (case side2 => exact (Kd.S_reads' HV2.out).2.1); (case side3 => exact (Kd.S_reads' (by (with_reducible repeat (first | apply Kd.S_alloc | apply Kd.S_drewN | apply Kd.S_drew)); exact HV4.out)).2.2); (case side4 => exact (Kd.S_reads' HV4.out).2.1); rintro e w' ⟨rfl, ⟨nd, rfl⟩⟩; refine ⟨_, rfl, ?_⟩))
  go_upto_region 14 with (first | ((with_reducible refine gate_callee (f := 11) rfl ?_); refine goesL_ (some 48) rfl rfl Tryd.func11 (by kernel_rfl) rfl #[.slice B2 l0.length cc2, .int .i64 1] rfl (by (try simp only [List.map_toArray, List.map_cons, List.map_nil]); first | done | rfl | (simp only [List.length_drop, List.length_take]; rfl)) ?_; (with_reducible refine (AK0.out _ W _ (fun k => n2 ≤ k ∧ k < n3) ?side1 ?side2).mono ?_); (case side1 => exact (by repeat (first | (with_reducible first | exact HB.out | apply below_alloc | apply pw_below_drewN | apply below_drew1) | exact HB.out))); (case side2 => exact (by (with_reducible repeat (first | apply Kd.S_alloc | apply Kd.S_drewN | apply Kd.S_drew)); exact HV2.out)); rintro e w6 ⟨rfl, ho, hb, hk⟩; refine ⟨_, rfl, ?_⟩; have HV02 := Aside0.mk (Kd.S_kept (by (with_reducible repeat (first | apply Kd.S_alloc | apply Kd.S_drewN | apply Kd.S_drew)); exact HV0.out) hk (fun k h1 h2 => by first | exact absurd h1.2.2 h2.2.2 | exact absurd h2.2.2 h1.2.2 | (obtain ⟨a1, a2⟩ := h1; obtain ⟨b1, b2⟩ := h2; have zn1 := HLn1.out; have zn2 := HLn2.out; have zn3 := HLn3.out; have zn4 := HLn4.out; have zn5 := HLn5.out; omega))); have HV12 := Aside0.mk (Kd.R_kept (by (with_reducible repeat (first | apply Kd.R_alloc | apply Kd.R_drewN | apply Kd.R_drew)); exact HV1.out) hk (fun k h1 h2 => by first | exact absurd h1.2.2 h2.2.2 | exact absurd h2.2.2 h1.2.2 | (obtain ⟨a1, a2⟩ := h1; obtain ⟨b1, b2⟩ := h2; have zn1 := HLn1.out; have zn2 := HLn2.out; have zn3 := HLn3.out; have zn4 := HLn4.out; have zn5 := HLn5.out; omega))); have HV32 := Aside0.mk (Kd.R_kept (by (with_reducible repeat (first | apply Kd.R_alloc | apply Kd.R_drewN | apply Kd.R_drew)); exact HV3.out) hk (fun k h1 h2 => by first | exact absurd h1.2.2 h2.2.2 | exact absurd h2.2.2 h1.2.2 | (obtain ⟨a1, a2⟩ := h1; obtain ⟨b1, b2⟩ := h2; have zn1 := HLn1.out; have zn2 := HLn2.out; have zn3 := HLn3.out; have zn4 := HLn4.out; have zn5 := HLn5.out; omega))); have HV42 := Aside0.mk (Kd.S_kept (by (with_reducible repeat (first | apply Kd.S_alloc | apply Kd.S_drewN | apply Kd.S_drew)); exact HV4.out) hk (fun k h1 h2 => by first | exact absurd h1.2.2 h2.2.2 | exact absurd h2.2.2 h1.2.2 | (obtain ⟨a1, a2⟩ := h1; obtain ⟨b1, b2⟩ := h2; have zn1 := HLn1.out; have zn2 := HLn2.out; have zn3 := HLn3.out; have zn4 := HLn4.out; have zn5 := HLn5.out; omega))); have HO2_ := Aside0.mk ho; have HB2 := Aside0.mk hb; have HN2_ := Aside0.mk (Nat.le_trans HN.out hk.1); clear ho hb hk HB HN HV0 HV1 HV2 HV3 HV4; have HB := HB2; have HN := HN2_; have HV0 := HV02; have HV1 := HV12; have HV3 := HV32; have HV4 := HV42; clear HB2 HN2_ HO2_ HV02 HV12 HV32 HV42))
  go_upto_region 17 with (first | (go_at_call 9; (with_reducible refine (laws_eqIntS.calls kAE0 _ _ L0 _ _ L0 true _ ?side1 ?side2 ?side3 ?side4 AE0.out).mono ?_); (case side1 => exact (Kd.R_reads' (by (with_reducible repeat (first | apply Kd.R_alloc | apply Kd.R_drewN | apply Kd.R_drew)); exact HV3.out)).2.2); (case side2 => exact (Kd.R_reads' HV3.out).2.1); (case side3 => exact (Kd.R_reads' (by (with_reducible repeat (first | apply Kd.R_alloc | apply Kd.R_drewN | apply Kd.R_drew)); exact HV1.out)).2.2); (case side4 => exact (Kd.R_reads' HV1.out).2.1); rintro e w' ⟨rfl, ⟨nd, rfl⟩⟩))
  go_upto_region 19 with (first | ((with_reducible refine gate_callee (f := 12) rfl ?_); refine goesL_ (some 64) rfl rfl Tryd.func12 (by kernel_rfl) rfl #[.slice B3 L0.length cc3, .int .i64 1] rfl (by (try simp only [List.map_toArray, List.map_cons, List.map_nil]); first | done | rfl | (simp only [List.length_drop, List.length_take]; rfl)) ?_; (with_reducible refine (laws_markIntS.calls kAK1 (fun k => n3 ≤ k ∧ k < n4) _ L0 1 T1 M1 W _ ?side1 ?side2 AK1.out).mono ?_); (case side1 => exact (by repeat (first | (with_reducible first | exact HB.out | apply below_alloc | apply pw_below_drewN | apply below_drew1) | exact HB.out))); (case side2 => exact (by (with_reducible repeat (first | apply Kd.R_alloc | apply Kd.R_drewN | apply Kd.R_drew)); exact HV3.out)); rintro e w7 ⟨rfl, ho, hb, hk⟩; refine ⟨_, rfl, ?_⟩; have HV02 := Aside0.mk (Kd.S_kept (by (with_reducible repeat (first | apply Kd.S_alloc | apply Kd.S_drewN | apply Kd.S_drew)); exact HV0.out) hk (fun k h1 h2 => by first | exact absurd h1.2.2 h2.2.2 | exact absurd h2.2.2 h1.2.2 | (obtain ⟨a1, a2⟩ := h1; obtain ⟨b1, b2⟩ := h2; have zn1 := HLn1.out; have zn2 := HLn2.out; have zn3 := HLn3.out; have zn4 := HLn4.out; have zn5 := HLn5.out; omega))); have HV12 := Aside0.mk (Kd.R_kept (by (with_reducible repeat (first | apply Kd.R_alloc | apply Kd.R_drewN | apply Kd.R_drew)); exact HV1.out) hk (fun k h1 h2 => by first | exact absurd h1.2.2 h2.2.2 | exact absurd h2.2.2 h1.2.2 | (obtain ⟨a1, a2⟩ := h1; obtain ⟨b1, b2⟩ := h2; have zn1 := HLn1.out; have zn2 := HLn2.out; have zn3 := HLn3.out; have zn4 := HLn4.out; have zn5 := HLn5.out; omega))); have HV42 := Aside0.mk (Kd.S_kept (by (with_reducible repeat (first | apply Kd.S_alloc | apply Kd.S_drewN | apply Kd.S_drew)); exact HV4.out) hk (fun k h1 h2 => by first | exact absurd h1.2.2 h2.2.2 | exact absurd h2.2.2 h1.2.2 | (obtain ⟨a1, a2⟩ := h1; obtain ⟨b1, b2⟩ := h2; have zn1 := HLn1.out; have zn2 := HLn2.out; have zn3 := HLn3.out; have zn4 := HLn4.out; have zn5 := HLn5.out; omega))); have HO2_ := Aside0.mk ho; have HB2 := Aside0.mk hb; have HN2_ := Aside0.mk (Nat.le_trans HN.out hk.1); clear ho hb hk HB HN HV0 HV1 HV3 HV4; have HB := HB2; have HN := HN2_; have HV0 := HV02; have HV1 := HV12; have HV4 := HV42; have HV3 := HO2_; clear HB2 HN2_ HO2_ HV02 HV12 HV42))
  go_upto_region 24 with (first | ((with_reducible refine gate_callee (f := 13) rfl ?_); refine goesL_ (some 67) rfl rfl Tryd.func13 (by kernel_rfl) rfl #[.slice B3 L0.length cc3, .int .i64 1] rfl (by (try simp only [List.map_toArray, List.map_cons, List.map_nil]); first | done | rfl | (simp only [List.length_drop, List.length_take]; rfl)) ?_; (with_reducible refine (AH1.out B3 cc3 _ ?side1).mono ?_); (case side1 => exact ⟨_, (by (with_reducible repeat (first | apply Kd.R_alloc | apply Kd.R_drewN | apply Kd.R_drew)); exact HV3.out)⟩); rintro e w' ⟨rfl, ⟨nd, rfl⟩⟩; refine ⟨_, rfl, ?_⟩))
  go_upto_region 25 with (first | ((with_reducible refine gate_callee (f := 7) rfl ?_); refine goesL_ (some 75) rfl rfl Tryd.func7 (by kernel_rfl) rfl #[.slice A0 l0.length c0] rfl (by (try simp only [List.map_toArray, List.map_cons, List.map_nil]); first | done | rfl | (simp only [List.length_drop, List.length_take]; rfl)) ?_; (with_reducible refine (laws_toIntSS.calls kt0 _ _ l0 l0 _ ?side1 ?side2 AT0.out).mono ?_); (case side1 => exact (Kd.C_below HR0.out (by repeat (first | (with_reducible first | exact HB.out | apply below_alloc | apply pw_below_drewN | apply below_drew1) | exact HB.out)))); (case side2 => exact HC0.out); rintro e w8 ⟨vv0, rfl, ho0, hb⟩; refine ⟨_, rfl, ?_⟩; obtain ⟨n6, hn_⟩ : ∃ n, n = w8.heap.size := ⟨_, rfl⟩; have HLn6 := Aside0.mk (show n5 ≤ n6 from Nat.le_trans HN.out (Nat.le_trans hb.size (Nat.le_of_eq hn_.symm))); have HV5 := Aside0.mk (Kd.S_mono (ok' := fun k => n5 ≤ k ∧ k < n6) (Kd.S_lower (Kd.S_bound ho0) (below_size (by repeat (first | (with_reducible first | exact HB.out | apply below_alloc | apply pw_below_drewN | apply below_drew1) | exact HB.out)))) (fun k hk => ⟨Nat.le_trans HN.out hk.2.1, by have := hk.2.2.1; omega⟩)); have HV02 := Aside0.mk (Kd.S_below (by (with_reducible repeat (first | apply Kd.S_alloc | apply Kd.S_drewN | apply Kd.S_drew)); exact HV0.out) hb); have HV12 := Aside0.mk (Kd.R_below (by (with_reducible repeat (first | apply Kd.R_alloc | apply Kd.R_drewN | apply Kd.R_drew)); exact HV1.out) hb); have HV32 := Aside0.mk (Kd.R_below (by (with_reducible repeat (first | apply Kd.R_alloc | apply Kd.R_drewN | apply Kd.R_drew)); exact HV3.out) hb); have HV42 := Aside0.mk (Kd.S_below (by (with_reducible repeat (first | apply Kd.S_alloc | apply Kd.S_drewN | apply Kd.S_drew)); exact HV4.out) hb); have HB2 := Aside0.mk (below_step (by repeat (first | (with_reducible first | exact HB.out | apply below_alloc | apply pw_below_drewN | apply below_drew1) | exact HB.out)) hb); have HN2_ := Aside0.mk (Nat.le_of_eq hn_); clear HB HN hb hn_ ho0 HV0 HV1 HV3 HV4; have HB := HB2; have HN := HN2_; have HV0 := HV02; have HV1 := HV12; have HV3 := HV32; have HV4 := HV42; clear HB2 HN2_ HV02 HV12 HV32 HV42; obtain ⟨B5, cc5, es_⟩ := Kd.S_slice HV5.out; subst es_) | ((with_reducible refine gate_callee (f := 8) rfl ?_); refine goesL_ (some 76) rfl rfl Tryd.func8 (by kernel_rfl) rfl #[.slice B5 l0.length cc5] rfl (by (try simp only [List.map_toArray, List.map_cons, List.map_nil]); first | done | rfl | (simp only [List.length_drop, List.length_take]; rfl)) ?_; (with_reducible refine (impl_RefusingRows.calls _ _ l0 L0 b _ ?side1 ?side2 AI.out).mono ?_); (case side1 => exact (Kd.S_reads' (by (with_reducible repeat (first | apply Kd.S_alloc | apply Kd.S_drewN | apply Kd.S_drew)); exact HV5.out)).2.2); (case side2 => exact (Kd.S_reads' HV5.out).2.1); rintro e w9 ⟨vv0, rfl, ho0, hb⟩; refine ⟨_, rfl, ?_⟩; obtain ⟨n7, hn_⟩ : ∃ n, n = w9.heap.size := ⟨_, rfl⟩; have HLn7 := Aside0.mk (show n6 ≤ n7 from Nat.le_trans HN.out (Nat.le_trans hb.size (Nat.le_of_eq hn_.symm))); have HV6 := Aside0.mk (Kd.R_mono (ok' := fun k => n6 ≤ k ∧ k < n7) (Kd.R_lower (Kd.R_bound ho0) (below_size (by repeat (first | (with_reducible first | exact HB.out | apply below_alloc | apply pw_below_drewN | apply below_drew1) | exact HB.out)))) (fun k hk => ⟨Nat.le_trans HN.out hk.2.1, by have := hk.2.2.1; omega⟩)); have HV02 := Aside0.mk (Kd.S_below (by (with_reducible repeat (first | apply Kd.S_alloc | apply Kd.S_drewN | apply Kd.S_drew)); exact HV0.out) hb); have HV12 := Aside0.mk (Kd.R_below (by (with_reducible repeat (first | apply Kd.R_alloc | apply Kd.R_drewN | apply Kd.R_drew)); exact HV1.out) hb); have HV32 := Aside0.mk (Kd.R_below (by (with_reducible repeat (first | apply Kd.R_alloc | apply Kd.R_drewN | apply Kd.R_drew)); exact HV3.out) hb); have HV42 := Aside0.mk (Kd.S_below (by (with_reducible repeat (first | apply Kd.S_alloc | apply Kd.S_drewN | apply Kd.S_drew)); exact HV4.out) hb); have HV52 := Aside0.mk (Kd.S_below (by (with_reducible repeat (first | apply Kd.S_alloc | apply Kd.S_drewN | apply Kd.S_drew)); exact HV5.out) hb); have HB2 := Aside0.mk (below_step (by repeat (first | (with_reducible first | exact HB.out | apply below_alloc | apply pw_below_drewN | apply below_drew1) | exact HB.out)) hb); have HN2_ := Aside0.mk (Nat.le_of_eq hn_); clear HB HN hb hn_ ho0 HV0 HV1 HV3 HV4 HV5; have HB := HB2; have HN := HN2_; have HV0 := HV02; have HV1 := HV12; have HV3 := HV32; have HV4 := HV42; have HV5 := HV52; clear HB2 HN2_ HV02 HV12 HV32 HV42 HV52; obtain ⟨B6, cc6, es_⟩ := Kd.R_slice HV6.out; subst es_))
  go_upto_region 28 with (first | ((with_reducible refine gate_callee (f := 9) rfl ?_); refine goesL_ (some 81) rfl rfl Tryd.func9 (by kernel_rfl) rfl #[.slice B6 L0.length cc6, .slice B1 L0.length cc1] rfl (by (try simp only [List.map_toArray, List.map_cons, List.map_nil]); first | done | rfl | (simp only [List.length_drop, List.length_take]; rfl)) ?_; (with_reducible refine (laws_eqIntS.calls kAE0 _ _ L0 _ _ L0 true _ ?side1 ?side2 ?side3 ?side4 AE0.out).mono ?_); (case side1 => exact (Kd.R_reads' (by (with_reducible repeat (first | apply Kd.R_alloc | apply Kd.R_drewN | apply Kd.R_drew)); exact HV6.out)).2.2); (case side2 => exact (Kd.R_reads' HV6.out).2.1); (case side3 => exact (Kd.R_reads' (by (with_reducible repeat (first | apply Kd.R_alloc | apply Kd.R_drewN | apply Kd.R_drew)); exact HV1.out)).2.2); (case side4 => exact (Kd.R_reads' HV1.out).2.1); rintro e w' ⟨rfl, ⟨nd, rfl⟩⟩; refine ⟨_, rfl, ?_⟩))
  go_wp2_with (first | ((with_reducible refine gate_callee (f := 13) rfl ?_); refine goesL_ (some 90) rfl rfl Tryd.func13 (by kernel_rfl) rfl #[.slice B3 L0.length cc3, .int .i64 1] rfl (by (try simp only [List.map_toArray, List.map_cons, List.map_nil]); first | done | rfl | (simp only [List.length_drop, List.length_take]; rfl)) ?_; (with_reducible refine (AH1.out B3 cc3 _ ?side1).mono ?_); (case side1 => exact ⟨_, (by (with_reducible repeat (first | apply Kd.R_alloc | apply Kd.R_drewN | apply Kd.R_drew)); exact HV3.out)⟩); rintro e w' ⟨rfl, ⟨nd, rfl⟩⟩; refine ⟨_, rfl, ?_⟩))
  go_ret
  exact ⟨rfl, (by repeat (first | (with_reducible first | exact HB.out | apply below_alloc | apply pw_below_drewN | apply below_drew1) | exact HB.out))⟩
end Go.Proofs.YtgcgecbdmomceaaDoor.A

/- What came in as a slice, opened and read in the words of rows. -/
namespace Go.Proofs.YtgcgecbdmomceaaDoor.A
open Go.RowKit Go.Proofs.YtgcgecbdmomceaaDoorW.PrintWords Go.Proofs.YtgcgecbdmomceaaDoorW.PrintLast Go.Proofs.YtgcgecbdmomceaaDoorW.PrintMore
attribute [local go_sem] max2_int min2_int max_two min_two max_three min_three max_four min_four
set_option linter.unusedVariables false
set_option linter.unusedSimpArgs false

open Go.ChangeShapes Go.WideShapes Go.ChangeAt Go.Deep
theorem row_rows {H : Type} {enc : TypeId × Value → H} {P : Program} {W : World} {base : Nat} {held : Bool} {t e q : TypeId} {a : Option Addr} {len cap : Nat} {d : DataW H} {ps : List MemPlace}
    (ht : P.underlying t = some (.slice e)) (he : P.underlying e = some (.slice q)) (hq : P.underlying q = some (.int .i64)) (ce : P.cellsOf e = 1) (cq : P.cellsOf q = 1) (h : DataW.Trod enc P W base (fun _ => true) held t (.slice a len cap) d ps) :
    ∃ l : List (List Int), len = l.length ∧ Kd.C (Kd.slice q (Kd.int .i64)) W a l.length l ∧ l.length ≤ 9223372036854775807 ∧ (∀ x ∈ l, x.length ≤ 9223372036854775807 ∧ ∀ y ∈ x, (Lit.int .i64 y).wf = true) ∧ l.length ≤ cap := by
  obtain ⟨fuel, hf⟩ := h
  rcases open_int_rows ht he hq ce cq hf with ⟨hcs, _⟩ | ⟨x, len', cap', A, L, C, Z, hcs, _, hl, hm, _, hrows⟩
  · simp [Value.cells] at hcs
    obtain ⟨rfl, rfl, rfl⟩ := hcs
    exact ⟨[], rfl, Kd.C_nil _ _, by simp, by simp, Nat.zero_le _⟩
  · simp [Value.cells] at hcs
    obtain ⟨rfl, rfl, rfl⟩ := hcs
    have hmax : cap ≤ 9223372036854775807 := by
      unfold maxLen at hm
      omega
    refine ⟨(List.range len).map fun r => (Z r).take (L r), by simp, ⟨rfl, by simp; omega, fun _ => ⟨x, rfl, fun j p hj => ?_⟩⟩, by simp; omega, ?_, by simpa using hl⟩
    · simp only [List.getElem?_map] at hj
      obtain ⟨r, hr, rfl⟩ := Option.map_eq_some_iff.1 hj
      obtain ⟨hjl, hjr⟩ := List.getElem?_eq_some_iff.1 hr
      rw [List.getElem_range] at hjr
      subst hjr
      rw [List.length_range] at hjl
      obtain ⟨h1, h2, h3, h4, h5, h6, h7⟩ := hrows j (by omega)
      have hlen : ((Z j).take (L j)).length = L j := by rw [List.length_take]; omega
      refine ⟨[.slice (A j) (L j) (C j)], rfl, ⟨A j, C j, by rw [hlen], by rw [hlen]; exact h2, ?_⟩, ?_⟩
      · refine Kd.C_of_reads (d := (0 : Int)) (h1 := fun _ => rfl) ⟨rfl, by rw [hlen]; unfold maxLen at h3; omega, fun hp => ?_⟩
        rw [hlen] at hp
        cases ha : A j with
        | none =>
          have := h6 ha
          omega
        | some a' =>
          refine ⟨a', rfl, fun i hi => ?_⟩
          rw [hlen] at hi
          rw [(h7 a' ha).2 i (by omega)]
          simp only [List.getD_eq_getElem?_getD, List.getElem?_take_of_lt hi]
      · intro i u hu
        cases i with
        | zero =>
          simp at hu
          subst hu
          rw [Nat.add_zero]
          have : (Kd.slice q (Kd.int .i64)).sz = 1 := rfl
          rw [this, Nat.mul_one]
          exact h1
        | succ i => simp at hu
    · intro y hy
      obtain ⟨r, hr, rfl⟩ := List.mem_map.1 hy
      rw [List.mem_range] at hr
      obtain ⟨h1, h2, h3, h4, h5, h6, h7⟩ := hrows r (by omega)
      refine ⟨by rw [List.length_take]; unfold maxLen at h3; omega, fun z hz => h5 z (List.mem_of_mem_take hz)⟩
end Go.Proofs.YtgcgecbdmomceaaDoor.A
