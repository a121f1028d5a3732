/- What the law FnCoversOfLists reaches, part 4: Lean functions with the same answers as the Go functions, the proofs that the Go code comes to these answers, and lemmas about them; no condition beyond those that each theorem names. -/
import Derived.Test.YtdkimdlbjeobiaaCFnCoversOfListsw1
import Derived.Lib.VarintBits
import Derived.Lib.Zigzag
import Derived.Test.YtdkimdlbjeobiaaCFnCoversOfLists1
import Derived.Test.YtdkimdlbjeobiaaCFnCoversOfLists2
import Derived.Test.YtdkimdlbjeobiaaCFnCoversOfLists3
set_option linter.unusedVariables false
set_option linter.unusedSimpArgs false
set_option maxHeartbeats 8000000
set_option maxRecDepth 100000
namespace Go.Proofs.Ytdkimdlbjeobiaa.A
open Go.RowKit Go.Proofs.YtdkimdlbjeobiaaW.PrintWords Go.Proofs.YtdkimdlbjeobiaaW.PrintLast Go.Proofs.YtdkimdlbjeobiaaW.PrintMore
attribute [local go_sem] max2_int min2_int max_two min_two max_three min_three max_four min_four
mutual
def impl_conjugate.l0 : Nat → Int → List Int → List Int → Int → Int → Option (List Int)
 | 0, _, _, _, _, _ => none
 | k + 1, x1, x5, x11, x12, x13 => if x13 < x12 then (if 0 ≤ x13 then (if x13 < (x11.length : Int) then (impl_conjugate.l1 k x1 x5 x11 x12 x13 (mn (rd x11 x13) x1) 0) else (none)) else (none)) else (some x5)
def impl_conjugate.l1 : Nat → Int → List Int → List Int → Int → Int → Int → Int → Option (List Int)
 | 0, _, _, _, _, _, _, _ => none
 | k + 1, x1, x5, x11, x12, x13, x19, x20 => if x20 < x19 then (if 0 ≤ x20 then (if x20 < (x5.length : Int) then (impl_conjugate.l1 k x1 (x5.set (x20 : Int).toNat (wrap64 ((rd x5 x20) + 1))) x11 x12 x13 x19 (wrap64 (x20 + 1))) else (none)) else (none)) else (impl_conjugate.l0 k x1 x5 x11 x12 (wrap64 (x13 + 1)))
end
mutual
def spec_liConjugate.l0 : Nat → Int → List Int → List Int → Int → Int → Option (List Int)
 | 0, _, _, _, _, _ => none
 | k + 1, x1, x5, x11, x12, x13 => if x13 < x12 then (if 0 ≤ x13 then (if x13 < (x11.length : Int) then (spec_liConjugate.l1 k x1 x5 (rd x11 x13) 0 x11 x12 x13) else (none)) else (none)) else (some x5)
def spec_liConjugate.l1 : Nat → Int → List Int → Int → Int → List Int → Int → Int → Option (List Int)
 | 0, _, _, _, _, _, _, _ => none
 | k + 1, x1, x5, x7, x8, x11, x12, x13 => if x8 < x7 then (if x8 < x1 then (if 0 ≤ x8 then (if x8 < (x5.length : Int) then (spec_liConjugate.l1 k x1 (x5.set (x8 : Int).toNat (wrap64 ((rd x5 x8) + 1))) x7 (wrap64 (x8 + 1)) x11 x12 x13) else (none)) else (none)) else (spec_liConjugate.l0 k x1 x5 x11 x12 (wrap64 (x13 + 1)))) else (spec_liConjugate.l0 k x1 x5 x11 x12 (wrap64 (x13 + 1)))
end



def spec_liFrom.l0 : Nat → List Int → Int → List Int → Int → Int → Option (List Int)
 | 0, _, _, _, _, _ => none
 | k + 1, x3, x4, x7, x8, x9 => if x9 < x8 then (if 0 ≤ x9 then (if x9 < (x7.length : Int) then (if x3.length < 17592186044416 then (spec_liFrom.l0 k (x3 ++ [wrap64 ((rd x7 x9) - x4)]) (rd x7 x9) x7 x8 (wrap64 (x9 + 1))) else (none)) else (none)) else (none)) else (some x3)
def spec_liFrom.f (k : Nat) (l0 : List Int) : Option (List Int) := spec_liFrom.l0 k ([] : List Int) 0 l0 (l0.length : Int) 0
mutual
def spec_MeetOf.j0 : Nat → List Int → List Int → Bool → Option (List Int × Bool)
 | 0, _, _, _ => none
 | k + 1, x0, x1, x23 => if x23 = true then (some (([] : List Int), false)) else ((spec_liPartial.f k x0).bind fun t526 => ((spec_liPartial.f k x1).bind fun t529 => (spec_MeetOf.l0 k t526 t529 ([] : List Int) (t526.length : Int) 0)))
def spec_MeetOf.l0 : Nat → List Int → List Int → List Int → Int → Int → Option (List Int × Bool)
 | 0, _, _, _, _, _ => none
 | k + 1, x6, x7, x8, x29, x30 => if x30 < x29 then (if 0 ≤ x30 then (if x30 < (x6.length : Int) then (if x30 < (x7.length : Int) then ((spec_l1Least.f (rd x6 x30) (rd x7 x30)).bind fun t534 => (if x8.length < 17592186044416 then (spec_MeetOf.l0 k x6 x7 (x8 ++ [t534]) x29 (wrap64 (x30 + 1))) else (none))) else (none)) else (none)) else (none)) else ((spec_liFrom.f k x8).bind fun t538 => (some (t538, true)))
end


def ex (l : List Int) (t : Int) : Int := (l.map fun x => max (x - t) 0).sum
theorem ex_nil (t : Int) : ex [] t = 0 := rfl
theorem ex_cons (x : Int) (l : List Int) (t : Int) : ex (x :: l) t = max (x - t) 0 + ex l t := by simp [ex]
theorem ex_perm {a b : List Int} (h : a.Perm b) (t : Int) : ex a t = ex b t := perm_sum (h.map _)
theorem ex_desc (a : List Int) (t : Int) : ex (descL a) t = ex a t := ex_perm (descL_perm a) t
theorem ex_nn : ∀ (l : List Int) (t : Int), 0 ≤ ex l t
 | [], t => by rw [ex_nil]; exact Int.le_refl _
 | x :: l, t => by
  have := ex_nn l t
  rw [ex_cons]
  omega
theorem pre_cons (x : Int) (l : List Int) (m : Nat) : pre (x :: l) (m + 1) = x + pre l m := by simp [pre]
theorem pre_ex (t : Int) : ∀ (l : List Int) (m : Nat), m ≤ l.length → pre l m ≤ m * t + ex l t
 | l, 0, _ => by
  have := ex_nn l t
  rw [pre_zero]
  simp
  exact this
 | [], m + 1, h => by simp at h
 | x :: l, m + 1, h => by
  have ih := pre_ex t l m (taaz)
  rw [pre_cons, ex_cons, Int.natCast_add, Int.add_mul]
  simp only [Int.natCast_one, Int.one_mul]
  omega
theorem pre_ex_eq (t : Int) : ∀ (l : List Int) (k : Nat), k ≤ l.length → (∀ i (h : i < l.length), i < k → t ≤ l[i]) → (∀ i (h : i < l.length), k ≤ i → l[i] ≤ t) → pre l k = k * t + ex l t
 | [], k, h, _, _ => by
  have : k = 0 := by simpa using h
  subst this; simp [pre_zero, ex_nil]
 | x :: l, 0, h, h1, h2 => by
  have ih := pre_ex_eq t l 0 (Nat.zero_le _) (fun i _ hi => absurd hi (Nat.not_lt_zero _)) (fun i hi _ => h2 (i + 1) (by simpa using hi) (Nat.zero_le _))
  have hx : x ≤ t := h2 0 (taac) (zcb _)
  rw [pre_zero] at ih ⊢
  rw [ex_cons]
  simp at ih ⊢
  omega
 | x :: l, k + 1, h, h1, h2 => by
  have ih := pre_ex_eq t l k (taaz) (fun i hi hk => h1 (i + 1) (by simpa using hi) (by omega)) (fun i hi hk => h2 (i + 1) (by simpa using hi) (by omega))
  have hx : t ≤ x := h1 0 (taac) (by omega)
  rw [pre_cons, ex_cons, Int.natCast_add, Int.add_mul]
  simp only [Int.natCast_one, Int.one_mul]
  omega
theorem cut_exists (t : Int) : ∀ (l : List Int), Desc l → ∃ k, k ≤ l.length ∧ (∀ i (h : i < l.length), i < k → t ≤ l[i]) ∧ (∀ i (h : i < l.length), k ≤ i → l[i] ≤ t)
 | [], _ => ⟨0, zcb _, fun i h => absurd h (Nat.not_lt_zero _), fun i h => absurd h (Nat.not_lt_zero _)⟩
 | x :: l, hd => by
  unfold Desc at hd
  rw [List.pairwise_cons] at hd
  by_cases hx : t ≤ x
  · obtain ⟨k, h1, h2, h3⟩ := cut_exists t l hd.2
    refine ⟨k + 1, by simpa using h1, fun i h hi => ?_, fun i h hi => ?_⟩
    · cases i with
      | zero => exact hx
      | succ i => exact h2 i (taaz) (by omega)
    · cases i with
      | zero => omega
      | succ i => exact h3 i (taaz) (by omega)
  · refine ⟨0, Nat.zero_le _, fun i h hi => absurd hi (Nat.not_lt_zero _), fun i h _ => ?_⟩
    cases i with
    | zero =>
     show x ≤ t
     omega
    | succ i =>
     have hi : i < l.length := by simpa using h
     have := hd.1 l[i] (List.getElem_mem hi)
     show l[i] ≤ t
     omega
theorem ex_pre {l : List Int} (hd : Desc l) (t : Int) : ∃ k, k ≤ l.length ∧ pre l k = k * t + ex l t := by
 obtain ⟨k, h1, h2, h3⟩ := cut_exists t l hd
 exact ⟨k, h1, pre_ex_eq t l k h1 h2 h3⟩
theorem pre_at {l : List Int} (hd : Desc l) (m : Nat) (hm : m < l.length) : pre l (m + 1) = (m + 1 : Nat) * rd l (m : Int) + ex l (rd l (m : Int)) := by
 refine pre_ex_eq _ l (m + 1) hm (fun i h hi => ?_) (fun i h hi => ?_)
 · have := desc_rd hd (show i ≤ m by omega) hm
   rw [rdn h] at this
   exact this
 · have := desc_rd hd (show m ≤ i by omega) h
   rw [rdn h] at this
   exact this
theorem dom_ex {x y : List Int} (hx : Desc x) (hy : Desc y) : Dom y x ↔ x.length = y.length ∧ x.sum = y.sum ∧ ∀ t, ex x t ≤ ex y t := by
 unfold Dom
 constructor
 · rintro ⟨h1, h2, h3⟩
   refine ⟨h1.symm, h2.symm, fun t => ?_⟩
   obtain ⟨k, hk, e⟩ := ex_pre hx t
   have a := h3 k; have b := pre_ex t y k (by omega)
   omega
 · rintro ⟨h1, h2, h3⟩
   refine ⟨h1.symm, h2.symm, fun m => ?_⟩
   cases m with
   | zero => rw [pre_zero, pre_zero]; exact Int.le_refl _
   | succ m =>
    by_cases hm : m < y.length
    · have a := pre_at hy m hm
      have b := pre_ex (rd y (m : Int)) x (m + 1) (by omega)
      have c := h3 (rd y (m : Int))
      omega
    · rw [pre_all (by omega), pre_all (by omega)]
      omega
theorem maj_ex (a b : List Int) : majB a b = true ↔ a.length = b.length ∧ a.sum = b.sum ∧ ∀ t, ex a t ≤ ex b t := by
 rw [majB_dom, dom_ex (descL_desc a) (descL_desc b), descL_length, descL_length, descL_sum, descL_sum]
 simp only [ex_desc]
theorem maj_trans {a b c : List Int} (h1 : majB a b = true) (h2 : majB b c = true) : majB a c = true := by
 rw [maj_ex] at *
 exact ⟨by omega, by omega, fun t => Int.le_trans (h1.2.2 t) (h2.2.2 t)⟩
theorem maj_refl (a : List Int) : majB a a = true := (maj_ex a a).2 ⟨rfl, rfl, fun _ => Int.le_refl _⟩
theorem maj_antisymm {a b : List Int} (h1 : majB a b = true) (h2 : majB b a = true) : descL a = descL b := ((maj_both a b).1 ⟨h1, h2⟩).2
theorem maj_desc_l (a b : List Int) : majB (descL a) b = majB a b := by
 rw [Bool.eq_iff_iff, maj_ex, maj_ex, descL_length, descL_sum]
 simp only [ex_desc]
theorem maj_desc_r (a b : List Int) : majB a (descL b) = majB a b := by
 rw [Bool.eq_iff_iff, maj_ex, maj_ex, descL_length, descL_sum]
 simp only [ex_desc]
def ugF (p : List Int) (i j : Nat) : Option (List Int) := if rd p (i : Int) ≥ rd p (j : Int) + 2 then some (descL (giveL p (i : Int) (j : Int) 1)) else none
def ugRow (p : List Int) (i j d : Nat) : List (List Int) := (List.range' j d).filterMap (ugF p i)
def ugAll (p : List Int) (i d : Nat) : List (List Int) := (List.range' i d).flatMap fun i => ugRow p i 0 p.length
theorem ugRow_le (p : List Int) (i j d : Nat) : (ugRow p i j d).length ≤ d := by
 have := List.length_filterMap_le (ugF p i) (List.range' j d)
 simpa [ugRow] using this
theorem ugAll_succ (p : List Int) (i d : Nat) : ugAll p i (d + 1) = ugRow p i 0 p.length ++ ugAll p (i + 1) d := by
 unfold ugAll
 rw [List.range'_succ, List.flatMap_cons]
theorem ugRow_succ (p : List Int) (i j d : Nat) : ugRow p i j (d + 1) = (if rd p (i : Int) ≥ rd p (j : Int) + 2 then [descL (giveL p (i : Int) (j : Int) 1)] else []) ++ ugRow p i (j + 1) d := by
 unfold ugRow
 rw [List.range'_succ, List.filterMap_cons]
 unfold ugF
 by_cases c : rd p (i : Int) ≥ rd p (j : Int) + 2
 · simp only [if_pos c]
   rfl
 · simp only [if_neg c]
   rfl
theorem specGifts_row (p : List Int) (hp : Sm p) (i : Nat) (hi : i < p.length) (r : List (List Int)) : ∀ (d j : Nat) (acc : List (List Int)), j + d = p.length → acc.length + d ≤ 1000000000 → Ev (fun k => spec_liGifts.l0 k p (acc ++ ugRow p i j d) (p.length : Int) (wrap64 ((i : Int) + 1))) r → Ev (fun k => spec_liGifts.l1 k p acc (i : Int) (p.length : Int) (i : Int) (p.length : Int) (j : Int)) r
 | 0, j, acc, h, hb, hr => by
  refine Ev.succ ?_
  simp only [spec_liGifts.l1, if_neg (show ¬ (j : Int) < (p.length : Int) by omega)]
  simpa [ugRow] using hr
 | d + 1, j, acc, h, hb, hr => by
  have hj : j < p.length := by omega
  have hlen := hp.1
  have bi := hp.2 _ (List.getElem_mem hi)
  have bj := hp.2 _ (List.getElem_mem hj)
  rw [← rdn hi] at bi
  rw [← rdn hj] at bj
  refine Ev.succ ?_
  simp only [spec_liGifts.l1, if_pos (show (j : Int) < (p.length : Int) by omega), if_pos (Int.natCast_nonneg i), if_pos (show (i : Int) < (p.length : Int) by omega), if_pos (Int.natCast_nonneg j), wsucc hj (by omega), w64 (x := rd p (j : Int) + 2) (by omega) (by omega)]
  rw [ugRow_succ] at hr
  by_cases c : rd p (i : Int) ≥ rd p (j : Int) + 2
  · rw [if_pos c] at hr
    have hij : i ≠ j := fun e => by rw [e] at c; omega
    have hset : rd (p.set i (rd p (i : Int) - 1)) (j : Int) = rd p (j : Int) := by
     rw [rdn (by rw [List.length_set]; exact hj), List.getElem_set_ne hij, rdn hj]
    have hg : (p.set i (rd p (i : Int) - 1)).set j (rd p (j : Int) + 1) = giveL p (i : Int) (j : Int) 1 := rfl
    simp only [if_pos c, l1Own_eq p (by omega), zbe, if_pos (show (i : Int) < (p.length : Int) by omega), if_pos (show (j : Int) < (p.length : Int) by omega), Int.toNat_natCast, w64 (x := rd p (i : Int) - 1) (by omega) (by omega), hset, w64 (x := rd p (j : Int) + 1) (by omega) (by omega), hg]
    refine Ev.bind (liRank_ev _ (tacs)) ?_
    simp only [if_pos (show acc.length < 5864062014805 by omega)]
    exact specGifts_row p hp i hi r d (j + 1) _ (by omega) (tacq) (by rw [List.append_assoc]; exact hr)
  · rw [if_neg c, List.nil_append] at hr
    simp only [if_neg c]
    exact specGifts_row p hp i hi r d (j + 1) acc (by omega) (by omega) hr
theorem specGifts_all (p : List Int) (hp : Sm p) : ∀ (d i : Nat) (acc : List (List Int)), i + d = p.length → acc.length + d * p.length ≤ 100000000 → Ev (fun k => spec_liGifts.l0 k p acc (p.length : Int) (i : Int)) (acc ++ ugAll p i d)
 | 0, i, acc, h, hb => by
  refine Ev.succ ?_
  simp only [spec_liGifts.l0, if_neg (show ¬ (i : Int) < (p.length : Int) by omega)]
  simp only [ugAll, List.range'_zero, List.flatMap_nil, List.append_nil]
  exact Ev.now _
 | d + 1, i, acc, h, hb => by
  have hlen := hp.1
  rw [Nat.succ_mul] at hb
  refine Ev.succ ?_
  simp only [spec_liGifts.l0, if_pos (show (i : Int) < (p.length : Int) by omega)]
  refine specGifts_row p hp i (by omega) _ p.length 0 acc (by omega) (by omega) ?_
  rw [wsucc (show i < p.length by omega) (by omega), ugAll_succ, ← List.append_assoc]
  have hr := ugRow_le p i 0 p.length
  exact specGifts_all p hp d (i + 1) _ (by omega) (by rw [List.length_append]; omega)
theorem specGifts_ev (p : List Int) (hp : Sm p) : Ev (fun k => spec_liGifts.f k p) (ugAll p 0 p.length) := by
 unfold spec_liGifts.f
 have h1 := hp.1
 have h2 : p.length * p.length ≤ 1000 * 1000 := Nat.mul_le_mul h1 h1
 have := specGifts_all p hp p.length 0 [] (by omega) (by simp; omega)
 rw [List.nil_append] at this
 exact this
def pickGo {α : Type} (le : α → α → Bool) : List α → List α → List α
 | out, [] => out
 | out, b :: l => pickGo le (if out.any (fun c => le b c) = true then out else out ++ [b]) l
theorem first_ex {α : Type} {lt : α → α → Prop} {Q : α → Prop} : ∀ L : List α, L.Pairwise lt → (∃ c ∈ L, Q c) → ∃ c ∈ L, Q c ∧ ∀ d ∈ L, Q d → d = c ∨ lt c d
 | [], _, h => by
  obtain ⟨c, hc, _⟩ := h
  simp at hc
 | x :: L, hs, h => by
  obtain ⟨h1, h2⟩ := List.pairwise_cons.1 hs
  by_cases hx : Q x
  · refine ⟨x, List.mem_cons_self, hx, fun d hd _ => ?_⟩
    rcases List.mem_cons.1 hd with e | hd
    · exact .inl e
    · exact .inr (h1 d hd)
  · obtain ⟨c, hc, hq⟩ := h
    have hcL : c ∈ L := by
     rcases List.mem_cons.1 hc with e | hc
     · rw [e] at hq
       exact absurd hq hx
     · exact hc
    obtain ⟨c2, k1, k2, k3⟩ := first_ex L h2 ⟨c, hcL, hq⟩
    refine ⟨c2, List.mem_cons_of_mem _ k1, k2, fun d hd hqd => ?_⟩
    rcases List.mem_cons.1 hd with e | hd
    · rw [e] at hqd
      exact absurd hqd hx
    · exact k3 d hd hqd
theorem pick_step {α : Type} [DecidableEq α] (le : α → α → Bool) (lt : α → α → Prop) (irr : ∀ a, ¬ lt a a) (tr : ∀ a b c, lt a b → lt b c → lt a c) (L : List α) (hs : L.Pairwise lt)
 (h1 : ∀ b ∈ L, ∀ c ∈ L, le b c = true → b ≠ c → lt c b) (h2 : ∀ a ∈ L, ∀ b ∈ L, ∀ c ∈ L, le a b = true → le b c = true → le a c = true) :
 ∀ (rest pre : List α), L = pre ++ rest → pickGo le (pre.filter fun b => L.all fun c => !(le b c) || decide (b = c)) rest = L.filter fun b => L.all fun c => !(le b c) || decide (b = c)
 | [], pre, e => by
  rw [List.append_nil] at e
  rw [← e]
  rfl
 | b :: rest, pre, e => by
  have hb : b ∈ L := by rw [e]; simp
  have hpre : ∀ c ∈ pre, lt c b := fun c hc => by
   rw [e] at hs
   exact (List.pairwise_append.1 hs).2.2 c hc b List.mem_cons_self
  have hrest : ∀ c ∈ rest, lt b c := fun c hc => by
   rw [e] at hs
   exact (List.pairwise_cons.1 (List.pairwise_append.1 hs).2.1).1 c hc
  have key : ((pre.filter fun b => L.all fun c => !(le b c) || decide (b = c)).any (fun c => le b c) = true) ↔ ¬ (L.all fun c => !(le b c) || decide (b = c)) = true := by
   rw [List.any_eq_true]
   constructor
   · rintro ⟨c, hc, hbc⟩ hall
     have hcp := (List.mem_filter.1 hc).1
     have := List.all_eq_true.1 hall c (by rw [e]; exact List.mem_append.2 (.inl hcp))
     rw [hbc] at this
     have hbe : b = c := by simpa using this
     rw [← hbe] at hcp
     exact irr b (hpre b hcp)
   · intro hno
     have hex : ∃ c ∈ L, (le b c = true ∧ b ≠ c) := by
      refine Classical.byContradiction fun hne => hno (List.all_eq_true.2 fun c hc => ?_)
      cases hle : le b c with
      | false => rfl
      | true =>
       by_cases hbe : b = c
       · simp [hbe]
       · exact absurd ⟨c, hc, hle, hbe⟩ hne
     obtain ⟨c, hc, ⟨hle, hbe⟩, hfirst⟩ := first_ex L hs hex
     have hlt : lt c b := h1 b hb c hc hle hbe
     have hcp : c ∈ pre := by
      rw [e] at hc
      rcases List.mem_append.1 hc with hc | hc
      · exact hc
      · rcases List.mem_cons.1 hc with e2 | hc
        · exact absurd e2.symm hbe
        · exact absurd (tr _ _ _ hlt (hrest c hc)) (irr c)
     refine ⟨c, List.mem_filter.2 ⟨hcp, List.all_eq_true.2 fun d hd => ?_⟩, hle⟩
     cases hcd : le c d with
     | false => rfl
     | true =>
      by_cases hce : c = d
      · simp [hce]
      · have hdc : lt d c := h1 c hc d hd hcd hce
        have hbd : le b d = true := h2 b hb c hc d hd hle hcd
        have hbd2 : b ≠ d := fun h => by
         rw [← h] at hdc
         exact irr b (tr _ _ _ hdc hlt)
        rcases hfirst d hd ⟨hbd, hbd2⟩ with h | h
        · exact absurd h.symm hce
        · exact absurd (tr _ _ _ h hdc) (irr c)
  unfold pickGo
  have ih := pick_step le lt irr tr L hs h1 h2 rest (pre ++ [b]) (by rw [e]; simp)
  rw [List.filter_append] at ih
  by_cases hm : (L.all fun c => !(le b c) || decide (b = c)) = true
  · rw [if_neg (fun h => (key.1 h) hm)]
    rw [show List.filter (fun b => L.all fun c => !(le b c) || decide (b = c)) [b] = [b] by rw [List.filter_cons, if_pos hm, List.filter_nil]] at ih
    exact ih
  · rw [if_pos (key.2 hm)]
    rw [show List.filter (fun b => L.all fun c => !(le b c) || decide (b = c)) [b] = [] by rw [List.filter_cons, if_neg hm, List.filter_nil], List.append_nil] at ih
    exact ih
theorem sorted_ext {α : Type} {lt : α → α → Prop} (irr : ∀ a, ¬ lt a a) (tr : ∀ a b c, lt a b → lt b c → lt a c) : ∀ l1 l2 : List α, l1.Pairwise lt → l2.Pairwise lt → (∀ x, x ∈ l1 ↔ x ∈ l2) → l1 = l2
 | [], [], _, _, _ => rfl
 | [], y :: l2, _, _, h => by
  have := (h y).2 List.mem_cons_self
  simp at this
 | x :: l1, [], _, _, h => by
  have := (h x).1 List.mem_cons_self
  simp at this
 | x :: l1, y :: l2, h1, h2, h => by
  obtain ⟨a1, a2⟩ := List.pairwise_cons.1 h1
  obtain ⟨b1, b2⟩ := List.pairwise_cons.1 h2
  have hxy : x = y := by
   rcases List.mem_cons.1 ((h x).1 List.mem_cons_self) with e | hx
   · exact e
   · rcases List.mem_cons.1 ((h y).2 List.mem_cons_self) with e | hy
     · exact e.symm
     · exact absurd (tr _ _ _ (a1 y hy) (b1 x hx)) (irr x)
  subst hxy; rw [sorted_ext irr tr l1 l2 a2 b2 fun z => ?_]
  constructor
  · intro hz
    rcases List.mem_cons.1 ((h z).1 (List.mem_cons_of_mem _ hz)) with e | k
    · rw [e] at hz
      exact absurd (a1 x hz) (irr x)
    · exact k
  · intro hz
    rcases List.mem_cons.1 ((h z).2 (List.mem_cons_of_mem _ hz)) with e | k
    · rw [e] at hz
      exact absurd (b1 x hz) (irr x)
    · exact k
theorem dom_lex : ∀ p x : List Int, Dom p x → x = p ∨ lexB p x
 | [], [], _ => .inl rfl
 | [], _ :: _, h => by simp [Dom] at h
 | _ :: _, [], h => by simp [Dom] at h
 | y :: p, z :: x, h => by
  obtain ⟨h1, h2, h3⟩ := h
  have k := h3 1; have hz : z ≤ y := by simpa [pre] using k
  by_cases e : z = y
  · subst e
    have hd : Dom p x := ⟨by simpa using h1, by simpa using h2, fun m => by
     have := h3 (m + 1)
     simp [pre] at this ⊢
     omega⟩
    rcases dom_lex p x hd with e | e
    · exact .inl (by rw [e])
    · exact .inr (.inr ⟨rfl, e⟩)
  · exact .inr (.inl (by omega))






theorem rd_L1n {xs : List (List Int)} {i : Nat} (h : i < xs.length) : rd_L1 xs (i : Int) = xs[i] := by
 unfold rd_L1
 rw [Int.toNat_natCast, List.getD_eq_getElem?_getD, List.getElem?_eq_getElem h]
 rfl
def covL (a : List Int) : List (List Int) := pickGo majB [] ((undL a).drop 1)
def covR (a : List Int) : List (List Int) × Bool := if goodL a = true then (if a.sum ≤ 30 then (covL a, true) else ([], false)) else ([], false)
theorem covHas_ev (b : List Int) (hb : Sm b) (out : List (List Int)) (ho : ∀ c ∈ out, Sm c) : Ev (fun k => covHas k out b) (out.any fun c => majB b c) := by
 obtain ⟨K, hK⟩ : ∃ K, ∀ k, K ≤ k → ∀ c ∈ out, impl_isMajorized.f k b c = some (majB b c) := by
  induction out with
  | nil => exact ⟨0, fun _ _ x hx => by simp at hx⟩
  | cons y l ih =>
   obtain ⟨K1, h1⟩ := ih (fun x hx => ho x (List.mem_cons_of_mem _ hx))
   obtain ⟨K2, h2⟩ := isMajorized_ev b y hb (ho y List.mem_cons_self)
   refine ⟨max K1 K2, fun k hk x hx => ?_⟩
   rcases List.mem_cons.1 hx with rfl | hx
   · exact h2 k (by omega)
   · exact h1 k (by omega) x hx
 refine ⟨K, fun k hk => ?_⟩
 show covHas k out b = _
 unfold covHas
 rw [if_pos (List.all_eq_true.2 fun c hc => by rw [hK k hk c hc]; rfl)]
 congr 1
 rw [Bool.eq_iff_iff, List.any_eq_true, List.any_eq_true]
 constructor
 · rintro ⟨c, hc, h⟩
   rw [hK k hk c hc] at h
   exact ⟨c, hc, taaz⟩
 · rintro ⟨c, hc, h⟩
   exact ⟨c, hc, by rw [hK k hk c hc, h]; rfl⟩
theorem implCov_l (L : List (List Int)) (hL : ∀ x ∈ L, Sm x) (hl : L.length ≤ 1000000000000) : ∀ (d i : Nat) (out : List (List Int)), i + d = L.length → out.length + d ≤ 1000000000000 → (∀ c ∈ out, Sm c) → Ev (fun k => impl_LowerCovers.l0 k out L (L.length : Int) (i : Int)) (pickGo majB out (L.drop i), true)
 | 0, i, out, e, hb, ho => by
  refine Ev.succ ?_
  simp only [impl_LowerCovers.l0, if_neg (show ¬ (i : Int) < (L.length : Int) by omega)]
  rw [List.drop_eq_nil_of_le (by omega)]
  exact Ev.now _
 | d + 1, i, out, e, hb, ho => by
  have hi : i < L.length := by omega
  refine Ev.succ ?_
  simp only [impl_LowerCovers.l0, if_pos (show (i : Int) < (L.length : Int) by omega), if_pos (show (0 : Int) ≤ (i : Int) by omega), rd_L1n hi, wsucc hi (by omega)]
  rw [List.drop_eq_getElem_cons hi]
  refine Ev.bind (covHas_ev L[i] (hL _ (List.getElem_mem hi)) out ho) ?_
  unfold pickGo
  cases c : out.any (fun c => majB L[i] c) with
  | true =>
   simp only [if_true]
   exact implCov_l L hL hl d (i + 1) out (by omega) (by omega) ho
  | false =>
   simp only [zbn, if_false, if_pos (show out.length < 5864062014805 by omega)]
   exact implCov_l L hL hl d (i + 1) (out ++ [L[i]]) (by omega) (tacq) (fun c hc => by
    rcases List.mem_append.1 hc with hc | hc
    · exact ho c hc
    · rw [List.mem_singleton.1 hc]
      exact hL _ (List.getElem_mem hi))
theorem implCov_ev (a : List Int) (hg : goodL a = true) (h30 : a.sum ≤ 30) : Ev (fun k => impl_LowerCovers.j0 k a false) (covL a, true) := by
 have hpos := und_pos hg; have hbd := und_bd a hg h30
 refine Ev.succ ?_
 simp only [impl_LowerCovers.j0, zbn, if_false]
 refine Ev.bind (implBelow_ev a hg h30) ?_
 simp only [if_pos (show 1 ≤ ((undL a).length : Int) by omega), zbe]
 have hl : ((undL a).drop 1).length = (undL a).length - 1 := zaw
 have := implCov_l ((undL a).drop 1) (fun x hx => (und_good hg h30 (List.mem_of_mem_drop hx)).2.1) (by omega) ((undL a).drop 1).length 0 [] (by omega) (by simp; omega) (taac)
 rw [List.drop_zero] at this
 exact this
theorem implLowerCovers_ev (a : List Int) (ha : a.length ≤ 1048576) : Ev (fun k => impl_LowerCovers.f k a) (covR a) := by
 unfold impl_LowerCovers.f covR
 refine Ev.bind (implIsList_ev a (by omega)) (Ev.ite (fun hg => ?_) (fun _ => Ev.succ (by simp only [impl_LowerCovers.j0, if_true]; exact Ev.now _)))
 refine Ev.bind (total_ev a (good_sm hg)) ?_
 by_cases h : a.sum ≤ 30
 · simp only [if_pos h, zbk (show ¬ a.sum > 30 by omega)]
   exact implCov_ev a hg h
 · simp only [if_neg h, zba (show a.sum > 30 by omega)]
   exact Ev.succ (by simp only [impl_LowerCovers.j0, if_true]; exact Ev.now _)
theorem l1Same_l (xs ys : List Int) (hx : xs.length ≤ 9223372036854775807) (hl : xs.length = ys.length) : ∀ (n i : Nat), i + n = xs.length → Ev (fun k => spec_l1Same.l0 k xs ys (xs.length : Int) (i : Int)) (decide (xs.drop i = ys.drop i))
 | 0, i, h => by
  refine Ev.succ ?_
  simp only [spec_l1Same.l0, if_neg (show ¬ (i : Int) < (xs.length : Int) by omega)]
  rw [List.drop_eq_nil_of_le (by omega), List.drop_eq_nil_of_le (by omega)]
  exact Ev.now _
 | n + 1, i, h => by
  have hi : i < xs.length := by omega
  have hj : i < ys.length := by omega
  refine Ev.succ ?_
  simp only [spec_l1Same.l0, if_pos (show (i : Int) < (xs.length : Int) by omega), if_pos (show (i : Int) < (ys.length : Int) by omega), if_pos (show (0 : Int) ≤ (i : Int) by omega), rdn hi, rdn hj, wsucc hi hx]
  rw [List.drop_eq_getElem_cons hi, List.drop_eq_getElem_cons hj]
  by_cases c : xs[i] = ys[i]
  · simp only [c, if_true, List.cons.injEq, true_and]
    exact l1Same_l xs ys hx hl n (i + 1) (by omega)
  · simp only [c, if_false, List.cons.injEq, false_and, decide_false]
    exact Ev.now _
theorem l1Same_ev (xs ys : List Int) (hx : xs.length ≤ 9223372036854775807) : Ev (fun k => spec_l1Same.f k xs ys) (decide (xs = ys)) := by
 unfold spec_l1Same.f
 by_cases h : xs.length = ys.length
 · simp only [if_pos (show (xs.length : Int) = (ys.length : Int) by omega)]
   exact l1Same_l xs ys hx h xs.length 0 (by omega)
 · simp only [if_neg (show ¬ (xs.length : Int) = (ys.length : Int) by omega)]
   rw [zbk (fun e => h (by rw [e]))]
   exact Ev.now _
def lexb : List Int → List Int → Bool
 | x :: a, y :: b => if x = y then lexb a b else decide (x > y)
 | _, _ => false
theorem lexb_iff : ∀ a b : List Int, lexb a b = true ↔ lexB a b
 | [], _ => by simp [lexb, lexB]
 | _ :: _, [] => by simp [lexb, lexB]
 | x :: a, y :: b => by
  have ih := lexb_iff a b
  unfold lexb lexB
  by_cases e : x = y
  · rw [if_pos e, ih]
    constructor
    · exact fun h => .inr ⟨e, h⟩
    · rintro (h | ⟨_, h⟩)
      · omega
      · exact h
  · rw [if_neg e, decide_eq_true_iff]
    constructor
    · exact fun h => .inl h
    · rintro (h | ⟨h, _⟩)
      · exact h
      · exact absurd h e
theorem liLess_l (a b : List Int) (hl : a.length = b.length) (ha : a.length ≤ 1000) : ∀ (d i : Nat), i + d = a.length → Ev (fun k => spec_liLess.l0 k a b (a.length : Int) (i : Int)) (lexb (a.drop i) (b.drop i))
 | 0, i, e => by
  refine Ev.succ ?_
  simp only [spec_liLess.l0, if_neg (show ¬ (i : Int) < (a.length : Int) by omega)]
  rw [List.drop_eq_nil_of_le (by omega)]
  exact Ev.now _
 | d + 1, i, e => by
  have hi : i < a.length := by omega
  have hj : i < b.length := by omega
  refine Ev.succ ?_
  simp only [spec_liLess.l0, if_pos (show (i : Int) < (a.length : Int) by omega), if_pos (Int.natCast_nonneg i), if_pos (show (i : Int) < (b.length : Int) by omega), rdn hi, rdn hj, wsucc hi (by omega)]
  rw [List.drop_eq_getElem_cons hi, List.drop_eq_getElem_cons hj]
  unfold lexb
  refine Ev.ite (fun _ => liLess_l a b hl ha d (i + 1) (by omega)) (fun _ => Ev.now _)
theorem liLess_ev (a b : List Int) (hl : a.length = b.length) (ha : a.length ≤ 1000) : Ev (fun k => spec_liLess.f k a b) (lexb a b) := by
 have := liLess_l a b hl ha a.length 0 (by omega)
 rw [List.drop_zero, List.drop_zero] at this
 exact this
def putL (a : List Int) : List (List Int) → List (List Int)
 | [] => [a]
 | c :: l => if lexb c a = true then c :: putL a l else if c = a then c :: l else a :: c :: l
theorem liPut_l (lists : List (List Int)) (a : List Int) (hl : lists.length ≤ 1000000) (hx : ∀ c ∈ lists, c.length = a.length) (ha : a.length ≤ 1000) : ∀ (d i : Nat), i + d = lists.length → Ev (fun k => spec_liPut.l0 k lists a (i : Int)) (lists.take i ++ putL a (lists.drop i))
 | 0, i, e => by
  refine Ev.succ ?_
  have ht : (lists.take i).length = i := by rw [zax]; omega
  have hd : (lists.drop i).length = 0 := by rw [zaw]; omega
  simp only [spec_liPut.l0, if_neg (show ¬ (i : Int) < (lists.length : Int) by omega), zbe, Int.toNat_natCast, List.nil_append, List.length_nil, List.length_append, List.length_singleton, ht, hd, if_pos (Int.natCast_nonneg i), if_pos (show (i : Int) ≤ (lists.length : Int) by omega), if_pos (show 0 + i < 5864062014805 by omega), if_pos (show i < 5864062014805 by omega), if_pos (show 0 + i + 1 + 0 < 5864062014805 by omega)]
  rw [List.drop_eq_nil_of_le (by omega), List.append_nil]
  exact Ev.now _
 | d + 1, i, e => by
  have hi : i < lists.length := by omega
  have hc := hx _ (List.getElem_mem hi)
  have ht : (lists.take i).length = i := by rw [zax]; omega
  have hd : (lists.drop i).length = d + 1 := by rw [zaw]; omega
  refine Ev.succ ?_
  simp only [spec_liPut.l0, if_pos (show (i : Int) < (lists.length : Int) by omega), if_pos (Int.natCast_nonneg i), rd_L1n hi, wsucc hi (by omega), zbe, Int.toNat_natCast, List.nil_append, List.length_nil, List.length_append, List.length_singleton, ht, hd, if_pos (show (i : Int) ≤ (lists.length : Int) by omega), if_pos (show 0 + i < 5864062014805 by omega), if_pos (show i < 5864062014805 by omega), if_pos (show 0 + i + 1 + (d + 1) < 5864062014805 by omega)]
  refine Ev.bind (liLess_ev lists[i] a hc (by omega)) ?_
  cases c : lexb lists[i] a with
  | true =>
   simp only [if_true]
   have := liPut_l lists a hl hx ha d (i + 1) (by omega)
   rw [← List.take_append_getElem hi, List.append_assoc] at this
   rw [List.drop_eq_getElem_cons hi]
   unfold putL
   rw [if_pos c]
   exact this
  | false =>
   simp only [zbn, if_false]
   refine Ev.bind (l1Same_ev lists[i] a (by omega)) ?_
   rw [List.drop_eq_getElem_cons hi]
   unfold putL
   by_cases e2 : lists[i] = a
   · simp only [zba e2, if_true, c, zbn, if_false, if_pos e2]
     rw [← List.drop_eq_getElem_cons hi, List.take_append_drop]
     exact Ev.now _
   · simp only [zbk e2, zbn, if_false, c, if_neg e2]
     rw [List.append_assoc]
     exact Ev.now _
def gsP (b c : List Int) : Bool := decide (b = c) || !(majB b c)
theorem specCov_l1 (G : List (List Int)) (hG : ∀ x ∈ G, Sm x) (hl : G.length ≤ 1000000) (out : List (List Int)) (b : List Int) (hb : Sm b) (i : Int) (r : List (List Int) × Bool) : ∀ (d j : Nat) (gr : Bool), j + d = G.length → Ev (fun k => if (gr && (G.drop j).all (gsP b)) = true then (spec_liPut.f k out b).bind fun t => spec_LowerCovers.l0 k G t G (G.length : Int) (wrap64 (i + 1)) else spec_LowerCovers.l0 k G out G (G.length : Int) (wrap64 (i + 1))) r → Ev (fun k => spec_LowerCovers.l1 k G out b gr G (G.length : Int) i G (G.length : Int) (j : Int)) r
 | 0, j, gr, e, hr => by
  rw [List.drop_eq_nil_of_le (by omega), List.all_nil, Bool.and_true] at hr
  refine Ev.succ ?_
  simp only [spec_LowerCovers.l1, if_neg (show ¬ (j : Int) < (G.length : Int) by omega)]
  exact hr
 | d + 1, j, gr, e, hr => by
  have hj : j < G.length := by omega
  rw [List.drop_eq_getElem_cons hj, List.all_cons] at hr
  refine Ev.succ ?_
  simp only [spec_LowerCovers.l1, if_pos (show (j : Int) < (G.length : Int) by omega), if_pos (Int.natCast_nonneg j), rd_L1n hj, wsucc hj (by omega)]
  cases gr with
  | false =>
   simp only [zbn, if_false]
   refine specCov_l1 G hG hl out b hb i r d (j + 1) false (by omega) ?_
   simpa using hr
  | true =>
   simp only [if_true]
   have hgs := hG _ (List.getElem_mem hj)
   refine Ev.bind (l1Same_ev b G[j] (by have := hb.1; omega)) ?_
   by_cases c : b = G[j]
   · simp only [zba c, if_true]
     refine specCov_l1 G hG hl out b hb i r d (j + 1) true (by omega) ?_
     have : gsP b G[j] = true := by unfold gsP; rw [zba c]; rfl
     rw [this, Bool.true_and] at hr
     exact hr
   · simp only [zbk c, zbn, if_false]
     refine Ev.bind (liBelow_ev b G[j] hb hgs) ?_
     refine specCov_l1 G hG hl out b hb i r d (j + 1) (!(majB b G[j])) (by omega) ?_
     have : gsP b G[j] = !(majB b G[j]) := by unfold gsP; rw [zbk c]; rfl
     rw [this, Bool.true_and] at hr
     exact hr
theorem putL_len (a : List Int) : ∀ l : List (List Int), (putL a l).length ≤ l.length + 1
 | [] => by simp [putL]
 | c :: l => by
  have := putL_len a l
  unfold putL
  split
  · simp only [List.length_cons]; omega
  · split
    · simp only [List.length_cons]; omega
    · simp only [List.length_cons]; omega
theorem putL_sub (a : List Int) : ∀ (l : List (List Int)) (x : List Int), x ∈ putL a l → x = a ∨ x ∈ l
 | [], x, h => by
  have : x = a := by simpa [putL] using h
  exact .inl this
 | c :: l, x, h => by
  unfold putL at h
  split at h
  · rcases List.mem_cons.1 h with e | h
    · exact .inr (by rw [e]; exact List.mem_cons_self)
    · rcases putL_sub a l x h with e | h
      · exact .inl e
      · exact .inr (List.mem_cons_of_mem _ h)
  · split at h
    · exact .inr h
    · rcases List.mem_cons.1 h with e | h
      · exact .inl e
      · exact .inr h
def covF (G : List (List Int)) (out : List (List Int)) (b : List Int) : List (List Int) := if G.all (gsP b) = true then putL b out else out
theorem specCov_l0 (G : List (List Int)) (hG : ∀ x ∈ G, Sm x) (hl : G.length ≤ 100000) (n : Nat) (hn : n ≤ 1000) (hGn : ∀ x ∈ G, x.length = n) : ∀ (d i : Nat) (out : List (List Int)), i + d = G.length → out.length + d ≤ 1000000 → (∀ c ∈ out, c.length = n) → Ev (fun k => spec_LowerCovers.l0 k G out G (G.length : Int) (i : Int)) ((G.drop i).foldl (covF G) out, true)
 | 0, i, out, e, hb, ho => by
  refine Ev.succ ?_
  simp only [spec_LowerCovers.l0, if_neg (show ¬ (i : Int) < (G.length : Int) by omega)]
  rw [List.drop_eq_nil_of_le (by omega)]
  exact Ev.now _
 | d + 1, i, out, e, hb, ho => by
  have hi : i < G.length := by omega
  have hm := List.getElem_mem hi
  refine Ev.succ ?_
  simp only [spec_LowerCovers.l0, if_pos (show (i : Int) < (G.length : Int) by omega), if_pos (Int.natCast_nonneg i), rd_L1n hi]
  rw [List.drop_eq_getElem_cons hi, List.foldl_cons]
  refine specCov_l1 G hG (by omega) out G[i] (hG _ hm) (i : Int) _ G.length 0 true (by omega) ?_
  rw [List.drop_zero, Bool.true_and, wsucc hi (by omega)]
  unfold covF
  by_cases c : G.all (gsP G[i]) = true
  · simp only [if_pos c]
    have hput := liPut_l out G[i] (by omega) (fun x hx => by rw [ho x hx, hGn _ hm]) (by rw [hGn _ hm]; exact hn) out.length 0 (by omega)
    rw [List.take_zero, List.nil_append, List.drop_zero] at hput
    refine Ev.bind (show Ev (fun k => spec_liPut.f k out G[i]) _ from hput) ?_
    have hlen := putL_len G[i] out
    exact specCov_l0 G hG hl n hn hGn d (i + 1) _ (by omega) (by omega) (fun x hx => by
     rcases putL_sub _ _ x hx with e | hx
     · rw [e, hGn _ hm]
     · exact ho x hx)
  · simp only [if_neg c]
    exact specCov_l0 G hG hl n hn hGn d (i + 1) out (by omega) (by omega) ho
theorem putL_sorted (a : List Int) : ∀ l : List (List Int), l.Pairwise lexB → (∀ c ∈ l, c.length = a.length) → (putL a l).Pairwise lexB ∧ ∀ x, x ∈ putL a l ↔ x = a ∨ x ∈ l
 | [], _, _ => by
  unfold putL
  exact ⟨List.pairwise_singleton _ _, fun x => taac⟩
 | c :: l, hs, hl => by
  obtain ⟨h1, h2⟩ := List.pairwise_cons.1 hs
  obtain ⟨i1, i2⟩ := putL_sorted a l h2 (fun x hx => hl x (List.mem_cons_of_mem _ hx))
  unfold putL
  by_cases e : lexb c a = true
  · rw [if_pos e]
    have hca := (lexb_iff c a).1 e
    refine ⟨List.pairwise_cons.2 ⟨fun x hx => ?_, i1⟩, fun x => ?_⟩
    · rcases (i2 x).1 hx with k | k
      · rw [k]
        exact hca
      · exact h1 x k
    · rw [List.mem_cons, i2, List.mem_cons]
      constructor
      · rintro (k | k | k)
        · exact .inr (.inl k)
        · exact .inl k
        · exact .inr (.inr k)
      · rintro (k | k | k)
        · exact .inr (.inl k)
        · exact .inl k
        · exact .inr (.inr k)
  · rw [if_neg e]
    by_cases e2 : c = a
    · rw [if_pos e2]
      refine ⟨hs, fun x => ⟨fun h => .inr h, ?_⟩⟩
      rintro (k | k)
      · rw [k, ← e2]
        exact List.mem_cons_self
      · exact k
    · rw [if_neg e2]
      have hac : lexB a c := by
       rcases lexB_total c a (hl c List.mem_cons_self) with k | k | k
       · exact absurd k e2
       · exact absurd ((lexb_iff c a).2 k) e
       · exact k
      refine ⟨List.pairwise_cons.2 ⟨fun x hx => ?_, hs⟩, fun x => List.mem_cons⟩
      rcases List.mem_cons.1 hx with k | k
      · rw [k]
        exact hac
      · exact lexB_trans _ _ _ hac (h1 x k)
theorem covF_sorted (G : List (List Int)) (n : Nat) : ∀ (L out : List (List Int)), (∀ x ∈ L, x.length = n) → out.Pairwise lexB → (∀ x ∈ out, x.length = n) → (L.foldl (covF G) out).Pairwise lexB ∧ ∀ x, x ∈ L.foldl (covF G) out ↔ x ∈ out ∨ (x ∈ L ∧ G.all (gsP x) = true)
 | [], out, _, h, _ => ⟨h, fun x => taac⟩
 | b :: L, out, hL, h, ho => by
  rw [List.foldl_cons]
  have hb := hL b List.mem_cons_self
  have hL' := fun x hx => hL x (List.mem_cons_of_mem b hx)
  by_cases c : G.all (gsP b) = true
  · have e : covF G out b = putL b out := by unfold covF; rw [if_pos c]
    obtain ⟨p1, p2⟩ := putL_sorted b out h (fun x hx => by rw [ho x hx, hb])
    rw [e]
    obtain ⟨k1, k2⟩ := covF_sorted G n L (putL b out) hL' p1 (fun x hx => by
     rcases (p2 x).1 hx with k | k
     · rw [k, hb]
     · exact ho x k)
    refine ⟨k1, fun x => ?_⟩
    rw [k2, p2, List.mem_cons]
    constructor
    · rintro ((k | k) | ⟨k, g⟩)
      · exact .inr ⟨.inl k, by rw [k]; exact c⟩
      · exact .inl k
      · exact .inr ⟨.inr k, g⟩
    · rintro (k | ⟨k | k, g⟩)
      · exact .inl (.inr k)
      · exact .inl (.inl k)
      · exact .inr ⟨k, g⟩
  · have e : covF G out b = out := by unfold covF; rw [if_neg c]
    rw [e]
    obtain ⟨k1, k2⟩ := covF_sorted G n L out hL' h ho
    refine ⟨k1, fun x => ?_⟩
    rw [k2, List.mem_cons]
    constructor
    · rintro (k | ⟨k, g⟩)
      · exact .inl k
      · exact .inr ⟨.inr k, g⟩
    · rintro (k | ⟨k | k, g⟩)
      · exact .inl k
      · rw [k] at g
        exact absurd g c
      · exact .inr ⟨k, g⟩


def sqS (l : List Int) : Int := (l.map fun x => x * x).sum
theorem sum_map_set (g : Int → Int) : ∀ (l : List Int) (i : Nat) (h : i < l.length) (v : Int), ((l.set i v).map g).sum = (l.map g).sum - g l[i] + g v
 | x :: l, 0, h, v => by simp; omega
 | x :: l, i + 1, h, v => by
  have := sum_map_set g l i (taaz) v
  simp only [zac, zau, List.sum_cons, List.getElem_cons_succ]
  omega
theorem sum_map_set_rd (g : Int → Int) (l : List Int) (i : Int) (h0 : 0 ≤ i) (h1 : i < l.length) (v : Int) : ((l.set i.toNat v).map g).sum = (l.map g).sum - g (rd l i) + g v := by
 have hi : i.toNat < l.length := by omega
 have e : rd l i = l[i.toNat] := rdi h0 h1
 rw [sum_map_set g l i.toNat hi v, e]
theorem kindB_iff (l : List Int) (f t a : Int) : kindB l f t a = true ↔ isG l f t a = true ∧ a ≤ 60 ∧ rd l t + a ≤ rd l f - a := by
 unfold kindB
 simp only [Bool.and_eq_true, decide_eq_true_eq]
theorem fall_ring (x y a : Int) : x * x + y * y - ((x - a) * (x - a) + (y + a) * (y + a)) = 2 * a * (x - y - a) := by grind
theorem sqS_give (l : List Int) (f t a : Int) (h1 : 0 ≤ f ∧ f < l.length) (h2 : 0 ≤ t ∧ t < l.length) (h3 : f ≠ t) : sqS l - sqS (giveL l f t a) = 2 * a * (rd l f - rd l t - a) := by
 unfold sqS giveL
 rw [sum_map_set_rd _ _ t h2.1 (tacr), sum_map_set_rd _ _ f h1.1 h1.2, rd_set_ne _ h1.1 h2.1 h3]
 have := fall_ring (rd l f) (rd l t) a
 omega
theorem ex_set (l : List Int) (i : Int) (h0 : 0 ≤ i) (h1 : i < l.length) (v t : Int) : ex (l.set i.toNat v) t = ex l t - max (rd l i - t) 0 + max (v - t) 0 := sum_map_set_rd (fun x => max (x - t) 0) l i h0 h1 v
theorem ex_give (l : List Int) (f t a : Int) (h1 : 0 ≤ f ∧ f < l.length) (h2 : 0 ≤ t ∧ t < l.length) (h3 : f ≠ t) (s : Int) : ex (giveL l f t a) s = ex l s - max (rd l f - s) 0 + max (rd l f - a - s) 0 - max (rd l t - s) 0 + max (rd l t + a - s) 0 := by
 unfold giveL
 rw [ex_set _ t h2.1 (tacr), ex_set _ f h1.1 h1.2, rd_set_ne _ h1.1 h2.1 h3]
theorem sum_set (l : List Int) (i : Int) (h0 : 0 ≤ i) (h1 : i < l.length) (v : Int) : (l.set i.toNat v).sum = l.sum - rd l i + v := by
 have h := sum_map_set_rd (fun x => x) l i h0 h1 v
 simpa using h
theorem give_sum (l : List Int) (f t a : Int) (h1 : 0 ≤ f ∧ f < l.length) (h2 : 0 ≤ t ∧ t < l.length) (h3 : f ≠ t) : (giveL l f t a).sum = l.sum := by
 unfold giveL
 rw [sum_set _ t h2.1 (tacr), sum_set _ f h1.1 h1.2, rd_set_ne _ h1.1 h2.1 h3]
 omega
theorem kind_maj {l : List Int} {f t a : Int} (hk : kindB l f t a = true) : majB (giveL l f t a) l = true := by
 obtain ⟨hG, c1, c2⟩ := (kindB_iff l f t a).1 hk
 obtain ⟨h1, h2, h3, h4⟩ := (isG_iff l f t a).1 hG
 refine (maj_ex _ _).2 ⟨giveL_length l f t a, give_sum l f t a h1 h2 h3, fun s => ?_⟩
 rw [ex_give l f t a h1 h2 h3]
 omega
theorem sqS_perm {a b : List Int} (h : a.Perm b) : sqS a = sqS b := perm_sum (h.map _)
theorem kind_fall {l : List Int} {f t a : Int} (hk : kindB l f t a = true) : 0 < 2 * a * (rd l f - rd l t - a) := by
 obtain ⟨hG, c1, c2⟩ := (kindB_iff l f t a).1 hk
 obtain ⟨h1, h2, h3, h4⟩ := (isG_iff l f t a).1 hG
 exact Int.mul_pos (by omega) (by omega)
theorem kind_not {l : List Int} {f t a : Int} (hk : kindB l f t a = true) : majB l (giveL l f t a) = false := by
 refine zbj.2 fun h => ?_
 have e := maj_antisymm h (kind_maj hk)
 obtain ⟨hG, c1, c2⟩ := (kindB_iff l f t a).1 hk
 obtain ⟨h1, h2, h3, h4⟩ := (isG_iff l f t a).1 hG
 have s := sqS_give l f t a h1 h2 h3
 have p := kind_fall hk; rw [← sqS_perm (descL_perm l), e, sqS_perm (descL_perm (giveL l f t a))] at s
 omega
def betB (a b : List Int) : Bool := if goodL a = true then (if goodL b = true then majB a b else false) else false
structure Gv (x t : List Int) (i j : Nat) (a : Int) : Prop extends Nx x t i j where
 pos : 1 ≤ a
 ai : a ≤ rd x (i : Int) - rd t (i : Int)
 aj : a ≤ rd t (j : Int) - rd x (j : Int)
theorem gv_pre {x t : List Int} {i j : Nat} {a : Int} (hl : x.length = t.length) (g : Gv x t i j a) (hp : ∀ m, pre t m ≤ pre x m) : ∀ m : Nat, i < m → m ≤ j → pre t m + a ≤ pre x m
 | 0, h, _ => by omega
 | m + 1, h, h2 => by
  have := g.hj
  rw [pre_succ (by omega), pre_succ (by omega)]
  rcases Nat.lt_or_ge i m with hlt | hge
  · have := gv_pre hl g hp m hlt (by omega)
    have := g.bef m (by omega)
    omega
  · have : m = i := by omega
    subst this; have := hp m
    have := g.ai
    omega
theorem gv_dom {x t : List Int} {i j : Nat} {a : Int} (hd : Dom x t) (g : Gv x t i j a) : Dom (giveL x (i : Int) (j : Int) a) t := by
 obtain ⟨hl, hs, hp⟩ := hd
 have h1 := g.lt
 have h2 := g.hj
 refine ⟨by rw [giveL_length]; exact hl, by rw [giveL_sum x i j a (by omega) h2 (by omega)]; exact hs, fun m => ?_⟩
 rcases Nat.lt_or_ge x.length m with hm | hm
 · rw [pre_all (by omega), pre_all (tacs), giveL_sum x i j a (by omega) h2 (by omega)]
   omega
 · rw [giveL_pre x i j a (by omega) h2 (by omega) m hm]
   have := hp m
   by_cases c1 : i < m
   · by_cases c2 : j < m
     · rw [if_pos c1, if_pos c2]; omega
     · rw [if_pos c1, if_neg c2]
       have := gv_pre hl g hp m c1 (by omega)
       omega
   · rw [if_neg c1, if_neg (by omega)]; omega
theorem gv_desc {x t : List Int} {i j : Nat} {a : Int} (hl : x.length = t.length) (hx : Desc x) (ht : Desc t) (g : Gv x t i j a) : Desc (giveL x (i : Int) (j : Int) a) := by
 have h1 := g.lt
 have h2 := g.hj
 have h3 := g.ai
 have h4 := g.aj
 refine desc_of_rd fun k hk => ?_
 rw [giveL_length] at hk
 rw [giveL_rd x i j a (by omega) h2 (by omega), giveL_rd x i j a (by omega) h2 (by omega)]
 have dx := desc_rd hx (a := k) (b := k + 1) (by omega) hk
 have dt := desc_rd ht (a := k) (b := k + 1) (by omega) (by omega)
 have hpos := g.pos
 by_cases c1 : k + 1 = j
 · rw [if_pos c1]
   by_cases c2 : k = i
   · rw [if_neg (by omega), if_pos c2]
     rw [c1, c2] at dt
     omega
   · rw [if_neg (by omega), if_neg c2]
     have := g.bef k (by omega)
     rw [c1] at dt
     omega
 · rw [if_neg c1]
   by_cases c2 : k + 1 = i
   · rw [if_pos c2, if_neg (by omega), if_neg (by omega)]
     rw [c2] at dx
     omega
   · rw [if_neg c2]
     by_cases c3 : k = j
     · rw [if_pos c3]
       rw [c3] at dx
       rw [c3]
       omega
     · rw [if_neg c3]
       by_cases c4 : k = i
       · rw [if_pos c4]
         have hb := g.btw (k + 1) (by omega) (by omega)
         rw [c4] at dt hb
         rw [c4]
         omega
       · rw [if_neg c4]
         exact dx
theorem und_head {a : List Int} (hg : goodL a = true) : undL a = descL a :: (undL a).drop 1 := by
 have hs : (undL a).Pairwise lexB := (allL_sorted a.length a.sum a.sum).filter _
 have hp := und_rank hg; cases e : undL a with
 | nil =>
  rw [e] at hp
  simp at hp
 | cons h t =>
  have hh : h ∈ undL a := by rw [e]; exact List.mem_cons_self
  rw [e] at hs hp
  obtain ⟨h1, h2, h3⟩ := (und_mem hg h).1 hh
  have hd := (majB_dom _ _).1 h3
  rw [descL_of_desc h1] at hd
  have : h = descL a := by
   rcases List.mem_cons.1 hp with k | k
   · exact k.symm
   · rcases dom_lex _ _ hd with k2 | k2
     · exact k2
     · exact absurd (lexB_trans _ _ _ k2 ((List.pairwise_cons.1 hs).1 _ k)) (lexB_irrefl _)
  rw [this]
  rfl
theorem undT_sorted {a : List Int} : ((undL a).drop 1).Pairwise lexB := by
 have hs : (undL a).Pairwise lexB := (allL_sorted a.length a.sum a.sum).filter _
 exact hs.sublist (List.drop_sublist 1 _)
theorem undT_mem {a : List Int} (hg : goodL a = true) (x : List Int) : x ∈ (undL a).drop 1 ↔ x ∈ undL a ∧ x ≠ descL a := by
 have hs : (undL a).Pairwise lexB := (allL_sorted a.length a.sum a.sum).filter _
 have e := und_head hg; rw [e] at hs
 constructor
 · intro h
   refine ⟨List.mem_of_mem_drop h, fun k => ?_⟩
   have := (List.pairwise_cons.1 hs).1 x h
   rw [k] at this
   exact lexB_irrefl _ this
 · rintro ⟨h, k⟩
   rw [e] at h
   rcases List.mem_cons.1 h with h | h
   · exact absurd h k
   · exact h
theorem ugAll_mem (p : List Int) (x : List Int) : x ∈ ugAll p 0 p.length ↔ ∃ i j : Nat, i < p.length ∧ j < p.length ∧ rd p (i : Int) ≥ rd p (j : Int) + 2 ∧ x = descL (giveL p (i : Int) (j : Int) 1) := by
 unfold ugAll ugRow
 rw [List.mem_flatMap]
 constructor
 · rintro ⟨i, hi, hx⟩
   obtain ⟨j, hj, hx⟩ := List.mem_filterMap.1 hx
   rw [List.mem_range'_1] at hi hj
   unfold ugF at hx
   split at hx
   · next c => exact ⟨i, j, by omega, by omega, c, by simpa using hx.symm⟩
   · cases hx
 · rintro ⟨i, j, hi, hj, c, e⟩
   refine ⟨i, List.mem_range'_1.2 (by omega), List.mem_filterMap.2 ⟨j, List.mem_range'_1.2 (by omega), ?_⟩⟩
   unfold ugF
   rw [if_pos c, e]
theorem ug_und {a : List Int} (hg : goodL a = true) {x : List Int} (hx : x ∈ ugAll (descL a) 0 (descL a).length) : x ∈ (undL a).drop 1 := by
 obtain ⟨i, j, hi, hj, c, rfl⟩ := (ugAll_mem _ _).1 hx
 have hgp : goodL (descL a) = true := by rw [good_desc]; exact hg
 have hij : i ≠ j := fun e => by rw [e] at c; omega
 have hk : kindB (descL a) (i : Int) (j : Int) 1 = true := (kindB_iff _ _ _ _).2 ⟨(isG_iff _ _ _ _).2 ⟨by omega, by omega, by omega, by omega⟩, by omega, by omega⟩
 have b1 := rd_good hgp (i := (i : Int)) (by omega) (by omega)
 have b2 := rd_good hgp (i := (j : Int)) (by omega) (by omega)
 have hgg : goodL (giveL (descL a) (i : Int) (j : Int) 1) = true := (give_good (descL a) (i : Int) (j : Int) _ _ hgp (by omega) (by omega) (by omega)).2 (by omega)
 have hm := kind_maj hk; have hnn : ∀ y ∈ giveL (descL a) (i : Int) (j : Int) 1, 0 ≤ y := fun y hy => ((good_sm hgg).2 y hy).1
 have hsum : (giveL (descL a) (i : Int) (j : Int) 1).sum = a.sum := by rw [giveL_sum _ i j 1 hi hj hij, descL_sum]
 refine (undT_mem hg _).2 ⟨(und_mem hg _).2 ⟨descL_desc _, fun y hy => ?_, ?_⟩, fun k => ?_⟩
 · have hy := descL_mem.1 hy
   have := mem_le_sum _ hnn hy
   have := hnn y hy
   omega
 · rw [maj_desc_l]
   rw [maj_desc_r] at hm
   exact hm
 · have hn := kind_not hk
   rw [← maj_desc_r, k, maj_refl] at hn
   cases hn
theorem und_ug {a : List Int} (hg : goodL a = true) {x : List Int} (hx : x ∈ (undL a).drop 1) : ∃ g ∈ ugAll (descL a) 0 (descL a).length, majB x g = true := by
 obtain ⟨hu, hne⟩ := (undT_mem hg x).1 hx
 obtain ⟨h1, h2, h3⟩ := (und_mem hg x).1 hu
 have hd := (majB_dom _ _).1 h3
 rw [descL_of_desc h1] at hd
 obtain ⟨i, j, hn⟩ := nx_exists hd (fun e => hne e.symm)
 have g : Gv (descL a) x i j 1 := ⟨hn, by omega, by have := hn.igt; omega, by have := hn.jlt; omega⟩
 have hij := hn.lt
 have hj := hn.hj
 have hl := hd.1
 have q1 := hn.igt
 have q2 := hn.jlt
 have q3 := desc_rd h1 (a := i) (b := j) (by omega) (by omega)
 refine ⟨_, (ugAll_mem _ _).2 ⟨i, j, by omega, hj, by omega, rfl⟩, ?_⟩
 rw [maj_desc_r, majB_dom, descL_of_desc h1, descL_of_desc (gv_desc hd.1 (descL_desc a) h1 g)]
 exact gv_dom hd g
theorem spec_covL {a : List Int} (hg : goodL a = true) : (ugAll (descL a) 0 (descL a).length).foldl (covF (ugAll (descL a) 0 (descL a).length)) [] = covL a := by
 have hlen : ∀ x ∈ undL a, x.length = a.length := fun x hx => ((majB_iff x a).1 ((und_mem hg x).1 hx).2.2).1
 have hT := fun x (hx : x ∈ ugAll (descL a) 0 (descL a).length) => ug_und hg hx
 have hdesc : ∀ x ∈ (undL a).drop 1, Desc x := fun x hx => ((und_mem hg x).1 (List.mem_of_mem_drop hx)).1
 obtain ⟨s1, m1⟩ := covF_sorted (ugAll (descL a) 0 (descL a).length) a.length (ugAll (descL a) 0 (descL a).length) [] (fun x hx => hlen x (List.mem_of_mem_drop (hT x hx))) List.Pairwise.nil (taac)
 have hcov : covL a = ((undL a).drop 1).filter fun b => ((undL a).drop 1).all fun c => !(majB b c) || decide (b = c) := by
  unfold covL
  exact pick_step majB lexB lexB_irrefl lexB_trans ((undL a).drop 1) undT_sorted (fun b hb c hc hle hne => by
   have hd := (majB_dom _ _).1 hle
   rw [descL_of_desc (hdesc b hb), descL_of_desc (hdesc c hc)] at hd
   rcases dom_lex _ _ hd with k | k
   · exact absurd k hne
   · exact k) (fun _ _ _ _ _ _ h k => maj_trans h k) _ [] rfl
 rw [hcov]
 refine sorted_ext lexB_irrefl lexB_trans _ _ s1 (undT_sorted.filter _) fun x => ?_
 have anti : ∀ x ∈ (undL a).drop 1, ∀ y ∈ (undL a).drop 1, majB x y = true → majB y x = true → x = y := fun x hx y hy h k => by
  have := maj_antisymm h k
  rw [descL_of_desc (hdesc x hx), descL_of_desc (hdesc y hy)] at this
  exact this
 rw [m1, List.mem_filter, List.all_eq_true, List.all_eq_true]
 constructor
 · rintro (h | ⟨h, k⟩)
   · simp at h
   · refine ⟨hT x h, fun c hc => ?_⟩
     cases hm : majB x c with
     | false => rfl
     | true =>
      obtain ⟨g, hgm, hcg⟩ := und_ug hg hc
      have hxg := maj_trans hm hcg
      have := k g hgm
      unfold gsP at this
      rw [hxg] at this
      have e : x = g := by simpa using this
      rw [← e] at hcg
      have := anti x (hT x h) c hc hm hcg
      simp [this]
 · rintro ⟨h, k⟩
   right
   obtain ⟨g, hgm, hxg⟩ := und_ug hg h
   have e := k g (hT g hgm)
   rw [hxg] at e
   have e : x = g := by simpa using e
   refine ⟨by rw [e]; exact hgm, fun c hc => ?_⟩
   have := k c (hT c hc)
   unfold gsP
   cases hm : majB x c with
   | false => simp
   | true =>
    rw [hm] at this
    have : x = c := by simpa using this
    simp [this]
theorem ugAll_le (p : List Int) : ∀ (d i : Nat), (ugAll p i d).length ≤ d * p.length
 | 0, i => by simp [ugAll]
 | d + 1, i => by
  rw [ugAll_succ, List.length_append, Nat.succ_mul]
  have := ugAll_le p d (i + 1)
  have := ugRow_le p i 0 p.length
  omega
theorem specLowerCovers_ev (a : List Int) (ha : a.length ≤ 1048576) : Ev (fun k => spec_LowerCovers.f k a) (covR a) := by
 unfold spec_LowerCovers.f covR
 refine Ev.bind (liGood_ev a (by omega)) (Ev.ite (fun hg => ?_) (fun _ => Ev.succ (by simp only [spec_LowerCovers.j0, if_true]; exact Ev.now _)))
 refine Ev.bind (liSum_ev a (good_sm hg)) ?_
 by_cases h : a.sum ≤ 30
 · simp only [if_pos h, zbk (show ¬ a.sum > 30 by omega)]
   refine Ev.succ ?_
   simp only [spec_LowerCovers.j0, zbn, if_false]
   have hs := good_sm hg; have hl := good_len hg; have hgp : goodL (descL a) = true := by rw [good_desc]; exact hg
   refine Ev.bind (liRank_ev a (by omega)) (Ev.bind (specGifts_ev (descL a) (good_sm hgp)) ?_)
   have hT := fun x (hx : x ∈ ugAll (descL a) 0 (descL a).length) => ug_und hg hx
   have hb := ugAll_le (descL a) (descL a).length 0
   have hdl := descL_length a; have hb2 : (descL a).length * (descL a).length ≤ 8 * 8 := Nat.mul_le_mul (by omega) (by omega)
   have := specCov_l0 (ugAll (descL a) 0 (descL a).length) (fun x hx => (und_good hg h (List.mem_of_mem_drop (hT x hx))).2.1) (by omega) a.length (by omega) (fun x hx => (und_good hg h (List.mem_of_mem_drop (hT x hx))).2.2.2.1) (ugAll (descL a) 0 (descL a).length).length 0 [] (by omega) (by simp; omega) (taac)
   rw [List.drop_zero, spec_covL hg] at this
   exact this
 · simp only [if_neg h, zba (show a.sum > 30 by omega)]
   exact Ev.succ (by simp only [spec_LowerCovers.j0, if_true]; exact Ev.now _)
theorem pickGo_sub {α : Type} (le : α → α → Bool) : ∀ (l out : List α) (x : α), x ∈ pickGo le out l → x ∈ out ∨ x ∈ l
 | [], out, x, h => .inl h
 | b :: l, out, x, h => by
  unfold pickGo at h
  rcases pickGo_sub le l _ x h with k | k
  · split at k
    · exact .inl k
    · rcases List.mem_append.1 k with k | k
      · exact .inl k
      · rw [List.mem_singleton.1 k]
        exact .inr List.mem_cons_self
  · exact .inr (List.mem_cons_of_mem _ k)
theorem pickGo_len {α : Type} (le : α → α → Bool) : ∀ (l out : List α), (pickGo le out l).length ≤ out.length + l.length
 | [], out => by simp [pickGo]
 | b :: l, out => by
  unfold pickGo
  have := pickGo_len le l (if out.any (fun c => le b c) = true then out else out ++ [b])
  have h2 : (if out.any (fun c => le b c) = true then out else out ++ [b]).length ≤ out.length + 1 := by
   split
   · omega
   · rw [List.length_append, List.length_singleton]
     omega
  rw [List.length_cons]
  omega
theorem cov_sub {a x : List Int} (h : x ∈ covL a) : x ∈ (undL a).drop 1 := by
 unfold covL at h
 rcases pickGo_sub _ _ _ _ h with k | k
 · simp at k
 · exact k
theorem covR_bd (a : List Int) : totSS (covR a).1 ≤ 8 * 852891037441 ∧ (covR a).1.length ≤ 852891037441 := by
 have h0 : totSS ([] : List (List Int)) ≤ 8 * 852891037441 ∧ ([] : List (List Int)).length ≤ 852891037441 := by simp [totSS]
 unfold covR
 split
 · next hg =>
   split
   · next h =>
     have hb := und_bd a hg h
     have hc : (covL a).length ≤ (undL a).length := by
      have := pickGo_len majB ((undL a).drop 1) []
      rw [zaw] at this
      unfold covL
      simp at this ⊢
      omega
     have ht := tot_le (l := covL a) (B := 8) (fun x hx => by have := und_good hg h (List.mem_of_mem_drop (cov_sub hx)); have := good_len hg; omega)
     exact ⟨by show totSS (covL a) ≤ _; omega, by show (covL a).length ≤ _; omega⟩
   · exact h0
 · exact h0
def maxIn (T : List (List Int)) (b : List Int) : Bool := T.all fun c => !(majB b c) || decide (b = c)
theorem und_lt {a : List Int} (hg : goodL a = true) {b c : List Int} (hb : b ∈ undL a) (hc : c ∈ undL a) (h : majB b c = true) (hne : b ≠ c) : lexB c b := by
 have db := ((und_mem hg b).1 hb).1
 have dc := ((und_mem hg c).1 hc).1
 have hd := (majB_dom _ _).1 h
 rw [descL_of_desc db, descL_of_desc dc] at hd
 rcases dom_lex _ _ hd with k | k
 · exact absurd k hne
 · exact k
theorem covL_max {a : List Int} (hg : goodL a = true) : covL a = ((undL a).drop 1).filter (maxIn ((undL a).drop 1)) := by
 unfold covL
 exact pick_step majB lexB lexB_irrefl lexB_trans ((undL a).drop 1) undT_sorted (fun b hb c hc hle hne => und_lt hg (List.mem_of_mem_drop hb) (List.mem_of_mem_drop hc) hle hne) (fun _ _ _ _ _ _ h k => maj_trans h k) _ [] rfl
theorem cov_mem {a : List Int} (hg : goodL a = true) (c : List Int) : c ∈ covL a ↔ c ∈ (undL a).drop 1 ∧ ∀ d ∈ (undL a).drop 1, majB c d = true → c = d := by
 rw [covL_max hg, List.mem_filter]
 unfold maxIn
 rw [List.all_eq_true]
 constructor
 · rintro ⟨h, k⟩
   refine ⟨h, fun d hd hm => ?_⟩
   have := k d hd
   rw [hm] at this
   simpa using this
 · rintro ⟨h, k⟩
   refine ⟨h, fun d hd => ?_⟩
   cases hm : majB c d with
   | false => rfl
   | true => simp [k d hd hm]
theorem cov_above {a : List Int} (hg : goodL a = true) {b : List Int} (hb : b ∈ (undL a).drop 1) : ∃ c ∈ covL a, majB b c = true := by
 obtain ⟨c, hc, hbc, hfirst⟩ := first_ex (lt := lexB) (Q := fun c => majB b c = true) ((undL a).drop 1) undT_sorted ⟨b, hb, maj_refl b⟩
 refine ⟨c, (cov_mem hg c).2 ⟨hc, fun d hd hm => ?_⟩, hbc⟩
 refine Classical.byContradiction fun hne => ?_
 have hdc := und_lt hg (List.mem_of_mem_drop hc) (List.mem_of_mem_drop hd) hm hne
 rcases hfirst d hd (maj_trans hbc hm) with k | k
 · exact hne k.symm
 · exact absurd (lexB_trans _ _ _ hdc k) (lexB_irrefl _)

theorem tmod_bd (x n : Int) (h0 : 0 ≤ x) (hn : 0 < n) : 0 ≤ Int.tmod x n ∧ Int.tmod x n < n := by
 rw [Int.tmod_eq_emod_of_nonneg h0]
 exact ⟨Int.emod_nonneg _ (by omega), Int.emod_lt_of_pos _ hn⟩
theorem and255 (z : Int) : 0 ≤ Go.bits .and .u64 (IntKind.u64.wrap z / 1099511627776) 255 ∧ Go.bits .and .u64 (IntKind.u64.wrap z / 1099511627776) 255 ≤ 255 := by
 have e := IntKind.wrap_u64 z
 have h := bits_mask .u64 64 (by decide) wraps_u64 8 (by decide) (IntKind.u64.wrap z / 1099511627776) (by omega) (by omega)
 have h' : Go.bits .and .u64 (IntKind.u64.wrap z / 1099511627776) 255 = IntKind.u64.wrap z / 1099511627776 % 256 := by simpa using h
 rw [h']
 omega
def Bytes (l : List Int) : Prop := l.length ≤ 1048576 ∧ ∀ x ∈ l, 0 ≤ x ∧ x ≤ 255
theorem next_ev (l : List Int) (hl : Bytes l) (a s : Int) (h0 : 0 ≤ a) (h1 : a ≤ 1000000000) : ∃ x s', spec_l1Cur_next.f l a s = some (x, a + 1, s') ∧ 0 ≤ x ∧ x ≤ 255 := by
 have hb := hl.1
 unfold spec_l1Cur_next.f
 rw [w64 (x := a + 1) (by omega) (by omega)]
 by_cases c : a < (l.length : Int)
 · simp only [if_pos c, if_pos h0]
   have hx := hl.2 _ (rd_mem h0 c)
   by_cases c2 : a + 1 ≤ (l.length : Int)
   · simp only [if_pos c2]
     refine ⟨_, _, rfl, ?_⟩
     rw [w64 (by omega) (by omega)]
     exact hx
   · omega
 · simp only [if_neg c]
   by_cases c2 : a + 1 ≤ (l.length : Int)
   · omega
   · simp only [if_neg c2]
     refine ⟨_, _, rfl, ?_⟩
     have := and255 (IntKind.u64.wrap (IntKind.u64.wrap (s * 6364136223846793005) + 0) + 1442695040888963407)
     rw [w64 (by omega) (by omega)]
     exact this
theorem pick_ev (l : List Int) (hl : Bytes l) (a s n : Int) (h0 : 0 ≤ a) (h1 : a ≤ 900000000) : ∃ x a' s', spec_l1Cur_pick.f l a s n = some (x, a', s') ∧ 0 ≤ x ∧ (x = 0 ∨ x < n) ∧ a ≤ a' ∧ a' ≤ a + 2 := by
 unfold spec_l1Cur_pick.f
 by_cases c : n ≤ 1
 · simp only [if_pos c]
   exact ⟨_, _, _, rfl, by omega, by omega, by omega, by omega⟩
 · simp only [if_neg c]
   obtain ⟨x, s1, e1, b1, b2⟩ := next_ev l hl a s h0 (by omega)
   simp only [e1, zbe]
   by_cases c2 : n > 200
   · simp only [if_pos c2]
     obtain ⟨y, s2, e2, b3, b4⟩ := next_ev l hl (a + 1) s1 (by omega) (by omega)
     simp only [e2, zbe, if_neg (show ¬ n = 0 by omega)]
     have t := tmod_bd (x * 256 + y) n (by omega) (by omega)
     refine ⟨_, _, _, rfl, ?_⟩
     rw [w64 (x := x * 256) (by omega) (by omega), w64 (x := x * 256 + y) (by omega) (by omega)]
     omega
   · simp only [if_neg c2, if_neg (show ¬ n = 0 by omega)]
     have t := tmod_bd x n (by omega) (by omega)
     exact ⟨_, _, _, rfl, by omega, by omega, by omega, by omega⟩
theorem among_ev (l : List Int) (hl : Bytes l) (a s : Int) (L : List Int) (hL : 0 < L.length) (h0 : 0 ≤ a) (h1 : a ≤ 900000000) : ∃ x a' s', spec_l1Cur_among.f l a s L = some (x, a', s') ∧ x ∈ L ∧ a ≤ a' ∧ a' ≤ a + 2 := by
 unfold spec_l1Cur_among.f
 obtain ⟨x, a', s', e, b0, b, b1, b2⟩ := pick_ev l hl a s (L.length : Int) h0 h1
 simp only [e, zbe, if_pos b0, if_pos (show x < (L.length : Int) by omega)]
 exact ⟨_, _, _, rfl, rd_mem b0 (by omega), b1, b2⟩
structure Bd (n m : Int) (l : List Int) : Prop where
 len : (l.length : Int) ≤ n
 low : ∀ x ∈ l, -1 ≤ x
 high : ∀ x ∈ l, x ≤ m
theorem Bd.le {n m n' m' : Int} {l : List Int} (h : Bd n m l) (h1 : n ≤ n') (h2 : m ≤ m') : Bd n' m' l := ⟨by have := h.len; omega, h.low, fun x hx => by have := h.high x hx; omega⟩
theorem Bd.snoc {n m : Int} {l : List Int} (h : Bd n m l) {x : Int} (h1 : -1 ≤ x) (h2 : x ≤ m) : Bd (n + 1) m (l ++ [x]) := by
 refine ⟨by have := h.len; rw [List.length_append]; simp; omega, fun y hy => ?_, fun y hy => ?_⟩
 · rcases List.mem_append.1 hy with hy | hy
   · exact h.low y hy
   · have : y = x := by simpa using hy
     omega
 · rcases List.mem_append.1 hy with hy | hy
   · exact h.high y hy
   · have : y = x := by simpa using hy
     omega
theorem Bd.nil (n m : Int) (h : 0 ≤ n) : Bd n m [] := ⟨taaz, fun x hx => by simp at hx, fun x hx => by simp at hx⟩
theorem list_l (l : List Int) (hl : Bytes l) (m : Int) (hm : 0 ≤ m) (hm2 : m ≤ 1000) : ∀ (d : Nat) (acc : List Int) (a s : Int), (d : Int) ≤ 10 → acc.length ≤ 10 → 0 ≤ a → a ≤ 800000000 + 10 * (10 - (d : Int)) → Bd (10 - (d : Int)) m acc → ∃ r a' s', Ev (fun k => spec_l1Cur_list.l0 k m acc (d : Int) l a s) (r, a', s') ∧ Bd 10 m r ∧ a ≤ a' ∧ a' ≤ a + 2 * (d : Int)
 | 0, acc, a, s, hd, hc, h0, h1, hb => by
  refine ⟨acc, a, s, Ev.succ ?_, hb.le (by omega) (by omega), by omega, by omega⟩
  simp only [spec_l1Cur_list.l0, if_neg (show ¬ ((0 : Nat) : Int) > 0 by omega)]
  exact Ev.now _
 | d + 1, acc, a, s, hd, hc, h0, h1, hb => by
  obtain ⟨x, a1, s1, e, b0, b, b1, b2⟩ := pick_ev l hl a s (m + 1) h0 (by omega)
  have hl1 := hb.len
  obtain ⟨r, a', s', h, hr, q1, q2⟩ := list_l l hl m hm hm2 d (acc ++ [x]) a1 s1 (by omega) (tact) (by omega) (by omega) ((hb.snoc (by omega) (by omega)).le (by omega) (by omega))
  refine ⟨r, a', s', Ev.succ ?_, hr, by omega, by omega⟩
  simp only [spec_l1Cur_list.l0, if_pos (show ((d + 1 : Nat) : Int) > 0 by omega), w64 (x := m + 1) (by omega) (by omega), e, zbe, if_pos (show acc.length < 17592186044416 by omega), w64 (x := ((d + 1 : Nat) : Int) - 1) (by omega) (by omega)]
  rw [show ((d + 1 : Nat) : Int) - 1 = (d : Int) by omega]
  exact h
theorem list_ev (l : List Int) (hl : Bytes l) (m : Int) (hm : 0 ≤ m) (hm2 : m ≤ 1000) (a s : Int) (h0 : 0 ≤ a) (h1 : a ≤ 700000000) : ∃ r a' s', Ev (fun k => spec_l1Cur_list.f k l a s m) (r, a', s') ∧ Bd 10 m r ∧ a ≤ a' ∧ a' ≤ a + 100 := by
 obtain ⟨x, a1, s1, e, b0, b, b1, b2⟩ := pick_ev l hl a s 6 h0 (by omega)
 obtain ⟨d, hd⟩ := Int.eq_ofNat_of_zero_le (show 0 ≤ 1 + x by omega)
 have hd' : 1 + x = (d : Int) := hd
 obtain ⟨r, a', s', h, hr, q1, q2⟩ := list_l l hl m hm hm2 d [] a1 s1 (by omega) (taac) (by omega) (by omega) (Bd.nil _ _ (by omega))
 refine ⟨r, a', s', ?_, hr, by omega, by omega⟩
 unfold spec_l1Cur_list.f
 simp only [e, zbe, w64 (x := 1 + x) (by omega) (by omega)]
 rw [hd']
 exact h
theorem any_l (l : List Int) (hl : Bytes l) (m : Int) (hm : 9 ≤ m) (hm2 : m ≤ 1000) : ∀ (d : Nat) (acc : List Int) (a s : Int), d ≤ 12 → acc.length + d = 12 → 0 ≤ a → a ≤ 800000000 + 10 * (acc.length : Int) → Bd 12 m acc → ∃ r a' s', Ev (fun k => spec_l1Cur_anyList.l0 k acc l a s) (r, a', s') ∧ Bd 12 m r ∧ a ≤ a' ∧ a' ≤ a + 2 + 4 * (d : Int)
 | 0, acc, a, s, hd, hc, h0, h1, hb => by
  obtain ⟨x, a1, s1, e, b0, b, b1, b2⟩ := pick_ev l hl a s 2 h0 (by omega)
  refine ⟨acc, a1, s1, Ev.succ ?_, hb, by omega, by omega⟩
  simp only [spec_l1Cur_anyList.l0, e, zbe, w64 (x := 8 + x) (by omega) (by omega), if_neg (show ¬ (acc.length : Int) < 8 + x by omega)]
  exact Ev.now _
 | d + 1, acc, a, s, hd, hc, h0, h1, hb => by
  obtain ⟨x, a1, s1, e, b0, b, b1, b2⟩ := pick_ev l hl a s 2 h0 (by omega)
  by_cases c : (acc.length : Int) < 8 + x
  · obtain ⟨y, a2, s2, e2, c0, c3, c1, c2⟩ := pick_ev l hl a1 s1 9 (by omega) (by omega)
    have hbb : Bd 12 m (acc ++ [y]) := by
     refine ⟨tact, fun z hz => ?_, fun z hz => ?_⟩
     · rcases List.mem_append.1 hz with hz | hz
       · exact hb.low z hz
       · have : z = y := by simpa using hz
         omega
     · rcases List.mem_append.1 hz with hz | hz
       · exact hb.high z hz
       · have : z = y := by simpa using hz
         omega
    obtain ⟨r, a', s', h, hr, q1, q2⟩ := any_l l hl m hm hm2 d (acc ++ [y]) a2 s2 (by omega) (tact) (by omega) (tact) hbb
    refine ⟨r, a', s', Ev.succ ?_, hr, by omega, by omega⟩
    simp only [spec_l1Cur_anyList.l0, e, zbe, w64 (x := 8 + x) (by omega) (by omega), if_pos c, e2, if_pos (show acc.length < 17592186044416 by omega)]
    exact h
  · refine ⟨acc, a1, s1, Ev.succ ?_, hb, by omega, by omega⟩
    simp only [spec_l1Cur_anyList.l0, e, zbe, w64 (x := 8 + x) (by omega) (by omega), if_neg c]
    exact Ev.now _
theorem anyList_ev (l : List Int) (hl : Bytes l) (m : Int) (hm : 0 ≤ m) (hm2 : m ≤ 1000) (a s : Int) (h0 : 0 ≤ a) (h1 : a ≤ 600000000) : ∃ r a' s', Ev (fun k => spec_l1Cur_anyList.f k l a s m) (r, a', s') ∧ Bd 12 (max m 61) r ∧ a ≤ a' ∧ a' ≤ a + 200 := by
 obtain ⟨L, a1, s1, e1, hL, b1, b2⟩ := list_ev l hl m hm hm2 a s h0 (by omega)
 obtain ⟨x, a2, s2, e2, c0, c3, c1, c2⟩ := pick_ev l hl a1 s1 14 (by omega) (by omega)
 have hlen := hL.len
 have hL' : Bd 12 (max m 61) L := hL.le (by omega) (by omega)
 by_cases t0 : x = 0
 · obtain ⟨y, a3, s3, e3, hy, d1, d2⟩ := among_ev l hl a2 s2 [-1, 0, 60, 61] (taac) (by omega) (by omega)
   have hy' : -1 ≤ y ∧ y ≤ 61 := by
    simp at hy
    omega
   refine ⟨L ++ [y], a3, s3, ?_, (Bd.snoc (hL.le (n' := 10) (m' := max m 61) (by omega) (by omega)) hy'.1 (by omega)).le (by omega) (by omega), by omega, by omega⟩
   unfold spec_l1Cur_anyList.f
   refine Ev.bind e1 ?_
   simp only [e2, zbe, if_pos t0, e3, if_pos (show L.length < 17592186044416 by omega)]
   exact Ev.now _
 · by_cases t1 : x = 1
   · obtain ⟨r, a3, s3, e3, hr, d1, d2⟩ := any_l l hl (max m 61) (by omega) (by omega) (12 - L.length) L a2 s2 (by omega) (by omega) (by omega) (by omega) hL'
     refine ⟨r, a3, s3, ?_, hr, by omega, by omega⟩
     unfold spec_l1Cur_anyList.f
     refine Ev.bind e1 ?_
     simp only [e2, zbe, if_neg t0, if_pos t1]
     exact e3
   · by_cases t2 : x = 2
     · refine ⟨[], a2, s2, ?_, Bd.nil _ _ (by omega), by omega, by omega⟩
       unfold spec_l1Cur_anyList.f
       refine Ev.bind e1 ?_
       simp only [e2, zbe, if_neg t0, if_neg t1, if_pos t2]
       exact Ev.now _
     · refine ⟨L, a2, s2, ?_, hL', by omega, by omega⟩
       unfold spec_l1Cur_anyList.f
       refine Ev.bind e1 ?_
       simp only [e2, zbe, if_neg t0, if_neg t1, if_neg t2]
       exact Ev.now _
theorem drawCov_ev (l : List Int) (hl : Bytes l) : ∃ x, Ev (fun k => spec_DrawLowerCovers.f k l) x ∧ Bd 12 61 x := by
 obtain ⟨x, a, s, e, hx, _, _⟩ := anyList_ev l hl 6 (by omega) (by omega) 0 0 (by omega) (by omega)
 refine ⟨x, ?_, hx.le (by omega) (by omega)⟩
 unfold spec_DrawLowerCovers.f
 exact Ev.bind e (Ev.now _)
theorem drawAll_ev (l : List Int) (hl : Bytes l) : ∃ n s, spec_DrawAllRankings.f l = some (n, s) := by
 unfold spec_DrawAllRankings.f
 obtain ⟨x, a1, s1, e1, p0, p1, p2, p3⟩ := pick_ev l hl 0 0 5 (by omega) (by omega)
 obtain ⟨y, a2, s2, e2, q0, q1, q2, q3⟩ := pick_ev l hl a1 s1 14 (by omega) (by omega)
 obtain ⟨z, a3, s3, e3, r0, r1, r2, r3⟩ := pick_ev l hl a2 s2 10 (by omega) (by omega)
 simp only [e1, e2, e3, zbe]
 by_cases c : z = 0
 · obtain ⟨u, a4, s4, e4, u1, u2, u3⟩ := among_ev l hl a3 s3 ([(-1), 0, 8, 9] : List Int) (by decide) (by omega) (by omega)
   simp only [if_pos c, e4, zbe]
   exact ⟨_, _, rfl⟩
 · by_cases c2 : z = 1
   · obtain ⟨u, a4, s4, e4, u1, u2, u3⟩ := among_ev l hl a3 s3 ([(-1), 0, 30, 31] : List Int) (by decide) (by omega) (by omega)
     obtain ⟨v, a5, s5, e5, v0, v1, v2, v3⟩ := pick_ev l hl a4 s4 3 (by omega) (by omega)
     simp only [if_neg c, if_pos c2, e4, e5, zbe]
     exact ⟨_, _, rfl⟩
   · simp only [if_neg c, if_neg c2]
     exact ⟨_, _, rfl⟩
def rankingR (a : List Int) : List Int × Bool := if goodL a = true then (descL a, true) else ([], false)
theorem implRankingOf_ev (a : List Int) (h : a.length ≤ 1048576) : Ev (fun k => impl_RankingOf.f k a) (rankingR a) := by
 unfold impl_RankingOf.f rankingR
 refine Ev.bind (implIsList_ev a (by omega)) ?_
 by_cases hg : goodL a = true
 · simp only [hg, if_true, ranking_eq (good_sm hg), zbe]
   exact Ev.now _
 · simp only [if_neg hg]
   exact Ev.now _
def majR (a b : List Int) : Bool × Bool := if goodL a = true then (if goodL b = true then (majB a b, true) else (false, false)) else (false, false)
theorem implIsMajorized_ev (a b : List Int) (ha : a.length ≤ 1048576) (hb : b.length ≤ 1048576) : Ev (fun k => impl_IsMajorized.f k a b) (majR a b) := by
 unfold impl_IsMajorized.f majR
 refine Ev.bind (areLists_ev a b ha hb) ?_
 by_cases ga : goodL a = true
 · by_cases gb : goodL b = true
   · simp only [ga, gb, if_true]
     exact Ev.bind (isMajorized_ev a b (good_sm ga) (good_sm gb)) (Ev.now _)
   · simp only [ga, if_true, if_neg gb]
     exact Ev.now _
 · simp only [if_neg ga, zbn, if_false]
   exact Ev.now _
theorem Ev.ite' {α : Type} {c : Prop} [Decidable c] {g f : Nat → Option α} {r : α} (h : c → Ev g r) (h' : ¬ c → Ev f r) : Ev (fun k => if c then g k else f k) r := by
 by_cases hc : c
 · simp only [hc, if_true]
   exact h hc
 · simp only [hc, if_false]
   exact h' hc
theorem big_eq (a b : List Int) (ha : a.length ≤ 140737488355328) : laws_big.f a b = some (decide ((a.length : Int) > 1048576 ∨ (b.length : Int) > 1048576 - (a.length : Int))) := by
 unfold laws_big.f
 rw [w64 (x := 1048576 - (a.length : Int)) (by omega) (by omega)]
 by_cases h : (a.length : Int) > 1048576
 · simp [h]
 · simp only [if_neg h]
   congr 1
   by_cases h2 : (b.length : Int) > 1048576 - (a.length : Int)
   · rw [zba h2, zba (.inr h2)]
   · rw [zbk h2, zbk (by omega)]
theorem bytes_of {l : List Int} (h : l.length ≤ 1048576) (hx : ∀ x ∈ l, (Lit.int .u8 x).wf = true) : Bytes l := by
 refine ⟨h, fun x hm => ?_⟩
 have := hx x hm
 simp only [Lit.wf, Bool.and_eq_true, decide_eq_true_eq] at this
 exact ⟨this.1, this.2⟩
theorem pSame_l (xs ys : List Int) (hx : xs.length ≤ 9223372036854775807) (hl : xs.length = ys.length) : ∀ (n i : Nat), i + n = xs.length → Ev (fun k => laws_pSame.l0 k xs ys (xs.length : Int) (i : Int)) (decide (xs.drop i = ys.drop i))
 | 0, i, h => by
  refine Ev.succ ?_
  simp only [laws_pSame.l0, if_neg (show ¬ (i : Int) < (xs.length : Int) by omega)]
  rw [List.drop_eq_nil_of_le (by omega), List.drop_eq_nil_of_le (by omega), zba rfl]
  exact Ev.now _
 | n + 1, i, h => by
  have hi : i < xs.length := by omega
  have hj : i < ys.length := by omega
  refine Ev.succ ?_
  simp only [laws_pSame.l0, if_pos (show (i : Int) < (xs.length : Int) by omega), if_pos (show (0 : Int) ≤ (i : Int) by omega), if_pos (show (i : Int) < (ys.length : Int) by omega), rdn hi, rdn hj, wsucc hi hx]
  rw [List.drop_eq_getElem_cons hi, List.drop_eq_getElem_cons hj]
  by_cases c : xs[i] = ys[i]
  · simp only [if_pos c, c, List.cons.injEq, true_and]
    exact pSame_l xs ys hx hl n (i + 1) (by omega)
  · simp only [if_neg c, List.cons.injEq, c, false_and, decide_false]
    exact Ev.now _
theorem pSame_ev (xs ys : List Int) (hx : xs.length ≤ 9223372036854775807) : Ev (fun k => laws_pSame.f k xs ys) (decide (xs = ys)) := by
 unfold laws_pSame.f
 by_cases h : (xs.length : Int) = (ys.length : Int)
 · simp only [if_pos h]
   exact pSame_l xs ys hx (by omega) xs.length 0 (by omega)
 · simp only [if_neg h]
   rw [zbk (fun e => h (by rw [e]))]
   exact Ev.now _
theorem pSame_self (xs : List Int) (hx : xs.length ≤ 9223372036854775807) : Ev (fun k => laws_pSame.f k xs xs) true := by
 have h := pSame_ev xs xs hx
 rw [zba rfl] at h
 exact h
theorem pSum_ev (l : List Int) (n m : Int) (h : Bd n m l) (hn : n ≤ 1000) (hm : m ≤ 100000) (hm0 : 0 ≤ m) : Ev (fun k => laws_pSum.f k l) l.sum := by
 unfold laws_pSum.f
 have hl := h.len
 have h := ev_fold (xs := l) (g := fun k s i => laws_pSum.l0 k s l (l.length : Int) i) (fun s x => s + x) (fun s i => -(i : Int) ≤ s ∧ s ≤ 100000 * (i : Int)) id
  (fun s _ => Ev.succ (by simp only [laws_pSum.l0, if_neg (Int.lt_irrefl _)]; exact Ev.now _))
  (fun i hi s r hs _ hr => Ev.succ (by
   have h1 := h.low _ (List.getElem_mem hi)
   have h2 := h.high _ (List.getElem_mem hi)
   simp only [laws_pSum.l0, if_pos (show (i : Int) < (l.length : Int) by omega), if_pos (show (0 : Int) ≤ (i : Int) by omega), rdn hi, wsucc hi (by omega), w64 (x := s + l[i]) (by omega) (by omega)]
   exact hr))
  (fun i hi s hs => by
   have h1 := h.low _ (List.getElem_mem hi)
   have h2 := h.high _ (List.getElem_mem hi)
   omega) l.length 0 0 (by omega) (by omega)
 rw [List.drop_zero, foldl_add, Int.zero_add] at h
 exact h
theorem good_Bd {l : List Int} (h : goodL l = true) : Bd 8 60 l := by
 have g := (goodL_iff l).1 h
 exact ⟨by omega, fun x hx => by have := g.2.2 x hx; omega, fun x hx => (g.2.2 x hx).2⟩
theorem pBelow_ev (a b : List Int) (ha : a.length ≤ 1048576) (hb : b.length ≤ 1048576) : Ev (fun k => laws_pBelow.f k a b) (betB a b) := by
 unfold laws_pBelow.f betB
 refine Ev.bind (implIsMajorized_ev a b ha hb) ?_
 unfold majR
 by_cases ga : goodL a = true
 · by_cases gb : goodL b = true
   · simp only [ga, gb, if_true]
     exact Ev.now _
   · simp only [ga, if_true, if_neg gb, zbn, if_false]
     exact Ev.now _
 · simp only [if_neg ga, zbn, if_false]
   exact Ev.now _
theorem pBelow_good {a b : List Int} (ga : goodL a = true) (gb : goodL b = true) : Ev (fun k => laws_pBelow.f k a b) (majB a b) := by
 have g1 := (goodL_iff a).1 ga
 have g2 := (goodL_iff b).1 gb
 have h := pBelow_ev a b (by omega) (by omega)
 unfold betB at h
 rw [if_pos ga, if_pos gb] at h
 exact h
theorem big_cut (l0 l1 : List Int) (g0 : l0.length * 1 ≤ 140737488351232) (x0 : ∀ x ∈ l0, (Lit.int .u8 x).wf = true) (x1 : ∀ x ∈ l1, (Lit.int .u8 x).wf = true) : laws_big.f l0 l1 = some true ∨ laws_big.f l0 l1 = some false ∧ Bytes l0 ∧ Bytes l1 := by
 rw [big_eq l0 l1 (by omega)]
 by_cases hb : (l0.length : Int) > 1048576 ∨ (l1.length : Int) > 1048576 - (l0.length : Int)
 · rw [zba hb]
   exact .inl rfl
 · rw [zbk hb]
   exact .inr ⟨rfl, bytes_of (by omega) x0, bytes_of (by omega) x1⟩
theorem pSameRows_l (l : List (List Int)) (hl : l.length ≤ 9223372036854775807) (hx : ∀ x ∈ l, x.length ≤ 9223372036854775807) : ∀ (d i : Nat), i + d = l.length → Ev (fun k => laws_pSameRows.l0 k l l (l.length : Int) (i : Int)) true
 | 0, i, e => by
  refine Ev.succ ?_
  simp only [laws_pSameRows.l0, if_neg (show ¬ (i : Int) < (l.length : Int) by omega)]
  exact Ev.now _
 | d + 1, i, e => by
  have hi : i < l.length := by omega
  refine Ev.succ ?_
  simp only [laws_pSameRows.l0, if_pos (show (i : Int) < (l.length : Int) by omega), if_pos (Int.natCast_nonneg i), rd_L1n hi, wsucc hi (by omega)]
  refine Ev.bind (pSame_self l[i] (hx _ (List.getElem_mem hi))) ?_
  simp only [if_true]
  exact pSameRows_l l hl hx d (i + 1) (by omega)
theorem pSameRows_self (l : List (List Int)) (hl : l.length ≤ 9223372036854775807) (hx : ∀ x ∈ l, x.length ≤ 9223372036854775807) : Ev (fun k => laws_pSameRows.f k l l) true := by
 unfold laws_pSameRows.f
 simp only [if_true]
 exact pSameRows_l l hl hx l.length 0 (by omega)
theorem pHasRow_l (l : List (List Int)) (x : List Int) (hl : l.length ≤ 9223372036854775807) (hx : x.length ≤ 9223372036854775807) : ∀ (d i : Nat), i + d = l.length → Ev (fun k => laws_pHasRow.l0 k x l (l.length : Int) (i : Int)) (decide (x ∈ l.drop i))
 | 0, i, e => by
  refine Ev.succ ?_
  simp only [laws_pHasRow.l0, if_neg (show ¬ (i : Int) < (l.length : Int) by omega)]
  rw [List.drop_eq_nil_of_le (by omega), zbk (taac)]
  exact Ev.now _
 | d + 1, i, e => by
  have hi : i < l.length := by omega
  refine Ev.succ ?_
  simp only [laws_pHasRow.l0, if_pos (show (i : Int) < (l.length : Int) by omega), if_pos (Int.natCast_nonneg i), rd_L1n hi, wsucc hi (by omega)]
  rw [List.drop_eq_getElem_cons hi]
  refine Ev.bind (pSame_ev x l[i] hx) ?_
  by_cases c : x = l[i]
  · simp only [zba c, if_true]
    rw [zba (show x ∈ l[i] :: l.drop (i + 1) by rw [← c]; exact List.mem_cons_self)]
    exact Ev.now _
  · simp only [zbk c, zbn, if_false]
    have ih := pHasRow_l l x hl hx d (i + 1) (by omega)
    rw [show decide (x ∈ l[i] :: l.drop (i + 1)) = decide (x ∈ l.drop (i + 1)) by
     congr 1
     rw [List.mem_cons]
     exact propext ⟨fun h => h.resolve_left c, .inr⟩]
    exact ih
theorem pHasRow_ev (l : List (List Int)) (x : List Int) (hl : l.length ≤ 9223372036854775807) (hx : x.length ≤ 9223372036854775807) : Ev (fun k => laws_pHasRow.f k l x) (decide (x ∈ l)) := pHasRow_l l x hl hx l.length 0 (by omega)
theorem le_totSS : ∀ {l : List (List Int)} {x : List Int}, x ∈ l → x.length ≤ totSS l
 | [], x, h => by simp at h
 | y :: l, x, h => by
  unfold totSS
  rw [zau, List.sum_cons]
  rcases List.mem_cons.1 h with e | h
  · rw [e]
    omega
  · have := le_totSS h
    unfold totSS at this
    omega
end Go.Proofs.Ytdkimdlbjeobiaa.A
/- The law FnCoversOfLists holds of the printed functions, for every argument: numbers and lists alone. -/
namespace Go.Proofs.Ytdkimdlbjeobiaa.Pure
open Go.RowKit Go.Proofs.Ytdkimdlbjeobiaa.A Go.Proofs.YtdkimdlbjeobiaaW.PrintWords Go.Proofs.YtdkimdlbjeobiaaW.PrintLast
set_option linter.unusedVariables false
set_option linter.unusedSimpArgs false
theorem co_l4 (a c : List Int) (hg : goodL a = true) (h30 : a.sum ≤ 30) (hc : c ∈ covL a) (C : List (List Int)) (m i0 : Int) (r : Bool) (hr : Ev (fun k => laws_FnCoversOfLists.l3 k (undL a) (descL a) C m (wrap64 (i0 + 1))) r) : ∀ (d i : Nat), i + d = (undL a).length → Ev (fun k => laws_FnCoversOfLists.l4 k (undL a) (descL a) c C m i0 (undL a) ((undL a).length : Int) (i : Int)) r
 | 0, i, e => by
  refine Ev.succ ?_
  simp only [laws_FnCoversOfLists.l4, if_neg (show ¬ (i : Int) < ((undL a).length : Int) by omega)]
  exact hr
 | d + 1, i, e => by
  have hi : i < (undL a).length := by omega
  have hbd := und_bd a hg h30
  have hm := List.getElem_mem hi
  have ih := co_l4 a c hg h30 hc C m i0 r hr d (i + 1) (by omega)
  obtain ⟨c1, c2⟩ := (cov_mem hg c).1 hc
  have gc := und_good hg h30 (List.mem_of_mem_drop c1)
  have gb := und_good hg h30 hm
  have hl := gb.2.1.1
  refine Ev.succ ?_
  simp only [laws_FnCoversOfLists.l4, if_pos (show (i : Int) < ((undL a).length : Int) by omega), if_pos (Int.natCast_nonneg i), rd_L1n hi, wsucc hi (by omega)]
  refine Ev.bind (pBelow_good gc.1 gb.1) (Ev.ite' (fun q => ?_) (fun _ => ih))
  refine Ev.bind (pSame_ev _ c (by omega)) (Ev.ite' (fun _ => ih) (fun q2 => ?_))
  refine Ev.bind (pSame_ev _ (descL a) (by omega)) ?_
  have q2 : ¬ (undL a)[i] = c := by simpa using q2
  have e3 : (undL a)[i] = descL a := by
   refine Classical.byContradiction fun hne => ?_
   exact q2 (c2 _ ((undT_mem hg _).2 ⟨hm, hne⟩) q).symm
  rw [zba e3]
  simp only [if_true]
  exact ih
theorem co_l3 (a : List Int) (hg : goodL a = true) (h30 : a.sum ≤ 30) : ∀ (d i : Nat), i + d = (covL a).length → Ev (fun k => laws_FnCoversOfLists.l3 k (undL a) (descL a) (covL a) ((covL a).length : Int) (i : Int)) true
 | 0, i, e => by
  refine Ev.succ ?_
  simp only [laws_FnCoversOfLists.l3, if_neg (show ¬ (i : Int) < ((covL a).length : Int) by omega)]
  exact Ev.now _
 | d + 1, i, e => by
  have hi : i < (covL a).length := by omega
  have hbd := covR_bd a
  have hbu := und_bd a hg h30
  unfold covR at hbd
  simp only [hg, h30, if_true] at hbd
  have hm := List.getElem_mem hi
  have c1 := cov_sub hm
  have gc := und_good hg h30 (List.mem_of_mem_drop c1)
  have hl := gc.2.1.1
  have hne := ((undT_mem hg _).1 c1).2
  refine Ev.succ ?_
  simp only [laws_FnCoversOfLists.l3, if_pos (show (i : Int) < ((covL a).length : Int) by omega), if_pos (Int.natCast_nonneg i), rd_L1n hi]
  refine Ev.bind (pHasRow_ev (undL a) _ (by omega) (by omega)) ?_
  rw [zba (List.mem_of_mem_drop c1)]
  simp only [if_true]
  refine Ev.bind (pSame_ev _ (descL a) (by omega)) ?_
  rw [zbk hne]
  simp only [zbn, if_false]
  refine co_l4 a _ hg h30 hm (covL a) _ _ true ?_ (undL a).length 0 (by omega)
  rw [wsucc hi (by omega)]
  exact co_l3 a hg h30 d (i + 1) (by omega)
theorem co_l2 (a b : List Int) (hg : goodL a = true) (h30 : a.sum ≤ 30) (hb : b ∈ (undL a).drop 1) (L : List (List Int)) (m i0 : Int) (r : Bool) (hr : Ev (fun k => laws_FnCoversOfLists.l1 k a (covL a) (undL a) (descL a) L m (wrap64 (i0 + 1))) r) : ∀ (d i : Nat) (n : Int), i + d = (covL a).length → 0 ≤ n → n ≤ (i : Int) → (0 < n ∨ ∃ c ∈ (covL a).drop i, majB b c = true) → Ev (fun k => laws_FnCoversOfLists.l2 k a (covL a) (undL a) (descL a) b n L m i0 (covL a) ((covL a).length : Int) (i : Int)) r
 | 0, i, n, e, h0, h1, h => by
  refine Ev.succ ?_
  simp only [laws_FnCoversOfLists.l2, if_neg (show ¬ (i : Int) < ((covL a).length : Int) by omega)]
  rw [List.drop_eq_nil_of_le (by omega)] at h
  have hn : ¬ n = 0 := by
   rcases h with h | ⟨c, hc, _⟩
   · omega
   · simp at hc
  simp only [if_neg hn]
  exact hr
 | d + 1, i, n, e, h0, h1, h => by
  have hi : i < (covL a).length := by omega
  have hbd := covR_bd a
  unfold covR at hbd
  simp only [hg, h30, if_true] at hbd
  have hm := List.getElem_mem hi
  have gc := und_good hg h30 (List.mem_of_mem_drop (cov_sub hm))
  have gb := und_good hg h30 (List.mem_of_mem_drop hb)
  refine Ev.succ ?_
  simp only [laws_FnCoversOfLists.l2, if_pos (show (i : Int) < ((covL a).length : Int) by omega), if_pos (Int.natCast_nonneg i), rd_L1n hi, wsucc hi (by omega), w64 (x := n + 1) (by omega) (by omega)]
  rw [List.drop_eq_getElem_cons hi] at h
  refine Ev.bind (pBelow_good gb.1 gc.1) (Ev.ite' (fun q => ?_) (fun q => ?_))
  · exact co_l2 a b hg h30 hb L m i0 r hr d (i + 1) (n + 1) (by omega) (by omega) (by omega) (.inl (by omega))
  · refine co_l2 a b hg h30 hb L m i0 r hr d (i + 1) n (by omega) h0 (by omega) ?_
    rcases h with h | ⟨c, hc, k⟩
    · exact .inl h
    · rcases List.mem_cons.1 hc with e2 | hc
      · rw [e2] at k
        exact absurd k q
      · exact .inr ⟨c, hc, k⟩
theorem co_l1 (a : List Int) (hg : goodL a = true) (h30 : a.sum ≤ 30) : ∀ (d i : Nat), i + d = ((undL a).drop 1).length → Ev (fun k => laws_FnCoversOfLists.l1 k a (covL a) (undL a) (descL a) ((undL a).drop 1) (((undL a).drop 1).length : Int) (i : Int)) true
 | 0, i, e => by
  refine Ev.succ ?_
  simp only [laws_FnCoversOfLists.l1, if_neg (show ¬ (i : Int) < (((undL a).drop 1).length : Int) by omega)]
  exact co_l3 a hg h30 (covL a).length 0 (by omega)
 | d + 1, i, e => by
  have hi : i < ((undL a).drop 1).length := by omega
  have hbd := und_bd a hg h30
  have hle : ((undL a).drop 1).length ≤ (undL a).length := by rw [zaw]; omega
  have hm := List.getElem_mem hi
  have hu := List.mem_of_mem_drop hm
  have gb := und_good hg h30 hu
  have p := pBelow_good gb.1 hg
  rw [((und_mem hg _).1 hu).2.2] at p
  refine Ev.succ ?_
  simp only [laws_FnCoversOfLists.l1, if_pos (show (i : Int) < (((undL a).drop 1).length : Int) by omega), if_pos (Int.natCast_nonneg i), rd_L1n hi]
  refine Ev.bind p ?_
  simp only [if_true]
  refine co_l2 a _ hg h30 hm _ _ _ true ?_ (covL a).length 0 0 (by omega) (by omega) (by omega) (.inr ?_)
  · rw [wsucc hi (by omega)]
    exact co_l1 a hg h30 d (i + 1) (by omega)
  · rw [List.drop_zero]
    exact cov_above hg hm
theorem co_l0end (a : List Int) (ha : a.length ≤ 1048576) : Ev (fun k => if (covR a).2 = true then (impl_BelowOf.f k a).bind fun bt730 => (if bt730.2 = true then (laws_FnCoversOfLists.j3 k a (covR a).1 bt730.1 bt730.2 (decide ((bt730.1.length : Int) > 120))) else (laws_FnCoversOfLists.j3 k a (covR a).1 bt730.1 bt730.2 true)) else some true) true := by
 refine Ev.ite' (fun c => ?_) (fun _ => Ev.now _)
 refine Ev.bind (implBelowOf_ev a ha) ?_
 unfold covR at c ⊢
 unfold belR
 by_cases hg : goodL a = true
 · by_cases h30 : a.sum ≤ 30
   · simp only [if_pos hg, if_pos h30, if_true]
     refine Ev.succ ?_
     simp only [laws_FnCoversOfLists.j3]
     refine Ev.ite' (fun _ => Ev.now _) (fun q => ?_)
     have hp := und_pos hg
     have hh := und_head hg
     have hdl := descL_length a
     have hlen := good_len hg
     refine Ev.bind (implRankingOf_ev a ha) ?_
     unfold rankingR
     simp only [if_pos hg, if_true, if_neg (show ¬ ((undL a).length : Int) = 0 by omega), if_pos (show (0 : Int) < ((undL a).length : Int) by omega)]
     have e0 : rd_L1 (undL a) 0 = descL a := by
      have e : rd_L1 (undL a) ((0 : Nat) : Int) = (undL a)[0] := rd_L1n hp
      have e2 : (undL a)[0] = descL a := by
       have : (undL a)[0]? = some (descL a) := by rw [hh]; rfl
       rw [List.getElem?_eq_getElem hp] at this
       exact zbf this
      rw [e2] at e
      exact e
     rw [e0]
     refine Ev.bind (pSame_self (descL a) (by omega)) ?_
     simp only [Bool.not_true]
     refine Ev.succ ?_
     simp only [laws_FnCoversOfLists.j4, zbn, if_false, if_pos (show (1 : Int) ≤ ((undL a).length : Int) by omega), zbe]
     exact co_l1 a hg h30 ((undL a).drop 1).length 0 (by omega)
   · rw [if_pos hg, if_neg h30] at c
     cases c
 · rw [if_neg hg] at c
   cases c
theorem co_l0 (a : List Int) (ha : a.length ≤ 1048576) (n s : Int) (L : List (List Int)) (hb : L.length ≤ 852891037441) (hs : L.Pairwise lexB) (hL : ∀ b ∈ L, goodL b = true ∧ Desc b ∧ b.sum = s ∧ (b.length : Int) = n) : ∀ (d i : Nat), i + d = L.length → Ev (fun k => laws_FnCoversOfLists.l0 k a (covR a).1 (covR a).2 n s L L (L.length : Int) (i : Int)) true
 | 0, i, e => by
  refine Ev.succ ?_
  simp only [laws_FnCoversOfLists.l0, if_neg (show ¬ (i : Int) < (L.length : Int) by omega)]
  exact co_l0end a ha
 | d + 1, i, e => by
  have hi : i < L.length := by omega
  have hm := List.getElem_mem hi
  obtain ⟨gb, db, sb, lb⟩ := hL _ hm
  have hlen := good_len gb
  have ih := co_l0 a ha n s L hb hs hL d (i + 1) (by omega)
  refine Ev.succ ?_
  simp only [laws_FnCoversOfLists.l0, if_pos (show (i : Int) < (L.length : Int) by omega), if_pos (Int.natCast_nonneg i), rd_L1n hi, wsucc hi (by omega)]
  refine Ev.bind (implRankingOf_ev L[i] (by omega)) ?_
  unfold rankingR
  simp only [if_pos gb, if_true, descL_of_desc db]
  refine Ev.bind (pSame_self L[i] (by omega)) ?_
  simp only [if_true]
  refine Ev.bind (pSum_ev L[i] 8 60 (good_Bd gb) (by omega) (by omega) (by omega)) ?_
  simp only [if_pos sb, if_pos lb]
  cases i with
  | zero =>
   simp only [if_neg (show ¬ ((0 : Nat) : Int) > 0 by omega)]
   exact ih
  | succ j =>
   have hj : j < L.length := by omega
   obtain ⟨gp, dp, sp, lp⟩ := hL _ (List.getElem_mem hj)
   have ew : wrap64 (((j + 1 : Nat) : Int) - 1) = (j : Int) := by
    rw [w64 (x := ((j + 1 : Nat) : Int) - 1) (by omega) (by omega)]
    omega
   simp only [if_pos (show ((j + 1 : Nat) : Int) > 0 by omega), ew, if_pos (Int.natCast_nonneg j), if_pos (show (j : Int) < (L.length : Int) by omega), rd_L1n hj]
   have p := pBelow_good gp gb
   have hlt : lexB L[j] L[j + 1] := List.pairwise_iff_getElem.1 hs j (j + 1) hj hi (by omega)
   have hno : majB L[j] L[j + 1] = false := zbj.2 fun h => by
    have hd := (majB_dom _ _).1 h
    rw [descL_of_desc dp, descL_of_desc db] at hd
    rcases dom_lex _ _ hd with k | k
    · rw [k] at hlt
      exact lexB_irrefl _ hlt
    · exact lexB_irrefl _ (lexB_trans _ _ _ hlt k)
   rw [hno] at p
   refine Ev.bind p ?_
   simp only [zbn, if_false]
   exact ih
theorem FnCoversOfLists : laws_FnCoversOfLists.Pure := by
 intro l0 l1 _ g0 x0 _ g1 x1
 apply Ev.get
 unfold laws_FnCoversOfLists.f
 rcases big_cut l0 l1 g0 x0 x1 with hb | ⟨hb, b0, b1⟩
 · simp only [hb, zbe, if_true]
   exact Ev.now _
 · simp only [hb, zbe, zbn, if_false]
   obtain ⟨a, e, hx⟩ := drawCov_ev l0 b0
   obtain ⟨n, s, e2⟩ := drawAll_ev l1 b1
   have la := hx.len
   refine Ev.bind e (Ev.bind (implLowerCovers_ev a (by omega)) (Ev.bind (specLowerCovers_ev a (by omega)) ?_))
   have hcb := covR_bd a
   have hce : ∀ x ∈ (covR a).1, x.length ≤ 9223372036854775807 := fun x hx => by
    have := le_totSS hx
    omega
   simp only [bne_self_eq_false, zbn, if_false]
   refine Ev.bind (pSameRows_self _ (by omega) hce) ?_
   simp only [Bool.not_true]
   refine Ev.succ ?_
   simp only [laws_FnCoversOfLists.j0, zbn, if_false, e2, zbe]
   have hab := allR_bd n s
   have hae : ∀ x ∈ (allR n s).1, x.length ≤ 9223372036854775807 := fun x hx => by
    have := le_totSS hx
    omega
   refine Ev.bind (implAllRankings_ev n s) (Ev.bind (specAllRankings_ev n s) ?_)
   simp only [bne_self_eq_false, zbn, if_false]
   refine Ev.bind (pSameRows_self _ (by omega) hae) ?_
   simp only [Bool.not_true]
   refine Ev.succ ?_
   simp only [laws_FnCoversOfLists.j1, zbn, if_false]
   refine co_l0 a (by omega) n s (allR n s).1 (by omega) ?_ ?_ (allR n s).1.length 0 (by omega)
   · unfold allR
     split
     · split
       · exact allL_sorted _ _ _
       · exact List.Pairwise.nil
     · exact List.Pairwise.nil
   · intro b hbm
     unfold allR at hbm
     split at hbm
     · next hn =>
       split at hbm
       · next hs =>
         obtain ⟨k1, k2, k3, k4⟩ := (allL_mem _ _ _ _ hs.1 hs.1).1 hbm
         refine ⟨(goodL_iff b).2 ⟨by omega, by omega, fun y hy => by have := k3 y hy; omega⟩, k2, k4, by omega⟩
       · simp at hbm
     · simp at hbm
end Go.Proofs.Ytdkimdlbjeobiaa.Pure

