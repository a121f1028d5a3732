/- What the law FnMeetsAndJoins reaches, part 4: Lean functions with the same answers as the Go functions, the proofs that the Go code comes to these answers, and lemmas about them; no condition beyond those that each theorem names. -/
import Derived.Test.YtdkimdlbjeobiaaCFnMeetsAndJoinsw1
import Derived.Lib.VarintBits
import Derived.Lib.Zigzag
import Derived.Test.YtdkimdlbjeobiaaCFnMeetsAndJoins1
import Derived.Test.YtdkimdlbjeobiaaCFnMeetsAndJoins2
import Derived.Test.YtdkimdlbjeobiaaCFnMeetsAndJoins3
set_option linter.unusedVariables false
set_option linter.unusedSimpArgs false
set_option maxHeartbeats 8000000
set_option maxRecDepth 100000
namespace Go.Proofs.Ytdkimdlbjeobiaa.A
open Go.RowKit Go.Proofs.YtdkimdlbjeobiaaW.PrintWords Go.Proofs.YtdkimdlbjeobiaaW.PrintLast Go.Proofs.YtdkimdlbjeobiaaW.PrintMore
attribute [local go_sem] max2_int min2_int max_two min_two max_three min_three max_four min_four
def gtN (l : List Int) (j : Nat) : Nat := l.countP fun x => decide ((j : Int) < x)
theorem gtN_le (l : List Int) (j : Nat) : gtN l j ≤ l.length := List.countP_le_length
theorem gtN_anti (l : List Int) {i j : Nat} (h : i ≤ j) : gtN l j ≤ gtN l i := List.countP_mono_left fun x _ hx => by
 simp only [decide_eq_true_eq] at hx ⊢
 omega
theorem gtN_zero (l : List Int) (m : Int) (j : Nat) (hl : ∀ x ∈ l, x ≤ m) (hj : m ≤ j) : gtN l j = 0 := by
 unfold gtN
 rw [List.countP_eq_zero]
 intro x hx
 have := hl x hx
 simp only [decide_eq_true_eq]
 omega
def mapR (n : Nat) (f : Nat → Int) : List Int := (List.range n).map f
theorem mapR_length (n : Nat) (f : Nat → Int) : (mapR n f).length = n := by simp [mapR]
theorem mapR_get (n : Nat) (f : Nat → Int) (i : Nat) (h : i < (mapR n f).length) : (mapR n f)[i] = f i := by simp [mapR]
theorem mapR_congr {n : Nat} {f g : Nat → Int} (h : ∀ i, i < n → f i = g i) : mapR n f = mapR n g := by
 unfold mapR
 exact List.map_congr_left fun i hi => h i (List.mem_range.1 hi)
theorem incT_mapR (n m : Nat) (f : Nat → Int) (hf : ∀ i, i < n → 0 ≤ f i ∧ f i ≤ 1000000000) : incT (mapR n f) m = mapR n (fun j => f j + if j < m then 1 else 0) := by
 refine List.ext_getElem (by rw [incT_length, mapR_length, mapR_length]) fun i h1 h2 => ?_
 have h3 := h1
 rw [incT_length, mapR_length] at h3
 have := hf i h3
 simp only [incT, List.getElem_append, List.length_map, zax, mapR_length, List.getElem_map, List.getElem_take, List.getElem_drop, mapR_get]
 split
 · rw [w64 (by omega) (by omega), if_pos (by omega)]
 · rw [if_neg (by omega)]
   by_cases hm : m ≤ n
   · rw [show m + (i - min m n) = i from by omega]; omega
   · omega
theorem conj_fold (n : Int) (h0 : 0 ≤ n) : ∀ (l : List Int) (f : Nat → Int), l.length ≤ 1000000 → (∀ i, i < n.toNat → 0 ≤ f i ∧ f i + l.length ≤ 1000000) → l.foldl (conjStep n) (mapR n.toNat f) = mapR n.toNat (fun j => f j + (gtN l j : Nat))
 | [], f, _, _ => by
  refine mapR_congr fun i _ => ?_
  simp [gtN]
 | x :: l, f, hl, hf => by
  rw [List.foldl_cons]
  unfold conjStep
  rw [incT_mapR _ _ _ (fun i hi => by have := hf i hi; rw [List.length_cons] at this; omega)]
  have := conj_fold n h0 l (fun j => f j + if j < (min x n).toNat then 1 else 0) (by rw [List.length_cons] at hl; omega) (fun i hi => by
   have := hf i hi
   rw [List.length_cons] at this
   split <;> omega)
  unfold conjStep at this
  rw [this]
  refine mapR_congr fun i hi => ?_
  simp only [gtN, List.countP_cons, decide_eq_true_eq]
  have : i < (min x n).toNat ↔ (i : Int) < x := by omega
  simp only [this]
  split <;> simp <;> omega
theorem conjL_eq (l : List Int) (n : Int) (h0 : 0 ≤ n) (hl : l.length ≤ 1000000) : conjL l n = mapR n.toNat (fun j => (gtN l j : Int)) := by
 unfold conjL
 have e : List.replicate n.toNat (0 : Int) = mapR n.toNat (fun _ => 0) := by
  refine List.ext_getElem (by rw [mapR_length, List.length_replicate]) fun i h1 h2 => ?_
  rw [mapR_get, List.getElem_replicate]
 rw [e, conj_fold n h0 l _ hl (fun i _ => by omega)]
 refine mapR_congr fun i _ => by omega
theorem conjL_bd (l : List Int) (n : Int) (h0 : 0 ≤ n) (hl : l.length ≤ 1000) (hn : n ≤ 1000) : Sm (conjL l n) := by
 refine ⟨taco, fun x hx => ?_⟩
 rw [conjL_eq l n h0 (by omega)] at hx
 obtain ⟨j, hj, rfl⟩ := List.mem_map.1 hx
 have := gtN_le l j
 omega
theorem conjL_desc (l : List Int) (n : Int) (h0 : 0 ≤ n) (hl : l.length ≤ 1000000) : Desc (conjL l n) := by
 rw [conjL_eq l n h0 hl]
 unfold Desc
 rw [List.pairwise_iff_getElem]
 intro i j hi hj hij
 rw [mapR_get, mapR_get]
 have := gtN_anti l (i := i) (j := j) (by omega)
 omega
theorem conjL_more (l : List Int) (m n : Int) (h0 : 0 ≤ m) (hm : m ≤ n) (hl : l.length ≤ 1000000) (hx : ∀ x ∈ l, x ≤ m) : conjL l n = conjL l m ++ List.replicate (n - m).toNat 0 := by
 rw [conjL_eq l n (by omega) hl, conjL_eq l m h0 hl]
 refine List.ext_getElem (by rw [List.length_append, mapR_length, mapR_length, List.length_replicate]; omega) fun i h1 h2 => ?_
 rw [mapR_get, List.getElem_append]
 split
 · rw [mapR_get]
 · next h =>
   rw [mapR_length] at h
   rw [List.getElem_replicate, gtN_zero l m i hx (by omega)]
   rfl
theorem conjL_zeros (l : List Int) (n : Int) (z : Nat) (h0 : 0 ≤ n) : conjL (l ++ List.replicate z 0) n = conjL l n := by
 unfold conjL
 rw [List.foldl_append]
 generalize l.foldl (conjStep n) (List.replicate n.toNat 0) = o
 induction z with
 | zero => rfl
 | succ z ih =>
  rw [List.replicate_succ, List.foldl_cons]
  have : conjStep n o 0 = o := by
   unfold conjStep
   rw [show (min 0 n).toNat = 0 from by omega, incT_zero]
  rw [this, ih]
theorem psums_append : ∀ (x y : List Int) (s : Int), psums s (x ++ y) = psums s x ++ psums (s + x.sum) y
 | [], y, s => by simp [psums]
 | a :: x, y, s => by
  rw [List.cons_append, psums, psums, psums_append x y, List.sum_cons, List.cons_append, Int.add_assoc]
theorem psums_zeros : ∀ (z : Nat) (s : Int), psums s (List.replicate z 0) = List.replicate z s
 | 0, _ => rfl
 | z + 1, s => by rw [List.replicate_succ, psums, Int.add_zero, psums_zeros z, List.replicate_succ]
theorem minL_append (p q x y : List Int) (h : p.length = q.length) : minL (p ++ x) (q ++ y) = minL p q ++ minL x y := List.zipWith_append h
theorem minL_rep (z : Nat) (s t : Int) : minL (List.replicate z s) (List.replicate z t) = List.replicate z (min s t) := by simp [minL]
theorem fromL_rep : ∀ (z : Nat) (s : Int), fromL s (List.replicate z s) = List.replicate z 0
 | 0, _ => rfl
 | z + 1, s => by rw [List.replicate_succ, fromL, fromL_rep z, List.replicate_succ, Int.sub_self]
theorem fromL_meet : ∀ (x y : List Int) (s t l : Int) (z : Nat), x.length = y.length → l = min s t → fromL l (minL (psums s x) (psums t y) ++ List.replicate z (min (s + x.sum) (t + y.sum))) = fromL l (minL (psums s x) (psums t y)) ++ List.replicate z 0
 | [], [], s, t, l, z, _, h => by
  subst h; simp [psums, minL, fromL, fromL_rep]
 | [], b :: y, s, t, l, z, hl, h => by simp at hl
 | a :: x, [], s, t, l, z, hl, h => by simp at hl
 | a :: x, b :: y, s, t, l, z, hl, h => by
  have ih := fromL_meet x y (s + a) (t + b) (min (s + a) (t + b)) z (by simpa using hl) rfl
  simp only [psums, minL, List.zipWith_cons_cons, List.cons_append, fromL, List.sum_cons, ← Int.add_assoc] at ih ⊢
  rw [ih]
def meetS (p q : List Int) : List Int := fromL 0 (minL (psums 0 p) (psums 0 q))
theorem meetS_zeros (p q : List Int) (z : Nat) (h : p.length = q.length) : meetS (p ++ List.replicate z 0) (q ++ List.replicate z 0) = meetS p q ++ List.replicate z 0 := by
 unfold meetS
 rw [psums_append, psums_append, psums_zeros, psums_zeros, minL_append _ _ _ _ (by rw [psums_length, psums_length, h]), minL_rep]
 exact fromL_meet p q 0 0 0 z h rfl
theorem meetL_desc {p q : List Int} (hp : Desc p) (hq : Desc q) : meetL p q = meetS p q := by
 unfold meetL meetS partL
 rw [descL_of_desc hp, descL_of_desc hq]
def ex (l : List Int) (t : Int) : Int := (l.map fun x => max (x - t) 0).sum
theorem ex_nil (t : Int) : ex [] t = 0 := rfl
theorem ex_cons (x : Int) (l : List Int) (t : Int) : ex (x :: l) t = max (x - t) 0 + ex l t := by simp [ex]
theorem ex_perm {a b : List Int} (h : a.Perm b) (t : Int) : ex a t = ex b t := perm_sum (h.map _)
theorem ex_desc (a : List Int) (t : Int) : ex (descL a) t = ex a t := ex_perm (descL_perm a) t
theorem ex_nn : ∀ (l : List Int) (t : Int), 0 ≤ ex l t
 | [], t => by rw [ex_nil]; exact Int.le_refl _
 | x :: l, t => by
  have := ex_nn l t
  rw [ex_cons]
  omega
theorem pre_cons (x : Int) (l : List Int) (m : Nat) : pre (x :: l) (m + 1) = x + pre l m := by simp [pre]
theorem pre_ex (t : Int) : ∀ (l : List Int) (m : Nat), m ≤ l.length → pre l m ≤ m * t + ex l t
 | l, 0, _ => by
  have := ex_nn l t
  rw [pre_zero]
  simp
  exact this
 | [], m + 1, h => by simp at h
 | x :: l, m + 1, h => by
  have ih := pre_ex t l m (taba)
  rw [pre_cons, ex_cons, Int.natCast_add, Int.add_mul]
  simp only [Int.natCast_one, Int.one_mul]
  omega
theorem pre_ex_eq (t : Int) : ∀ (l : List Int) (k : Nat), k ≤ l.length → (∀ i (h : i < l.length), i < k → t ≤ l[i]) → (∀ i (h : i < l.length), k ≤ i → l[i] ≤ t) → pre l k = k * t + ex l t
 | [], k, h, _, _ => by
  have : k = 0 := by simpa using h
  subst this; simp [pre_zero, ex_nil]
 | x :: l, 0, h, h1, h2 => by
  have ih := pre_ex_eq t l 0 (Nat.zero_le _) (fun i _ hi => absurd hi (Nat.not_lt_zero _)) (fun i hi _ => h2 (i + 1) (by simpa using hi) (Nat.zero_le _))
  have hx : x ≤ t := h2 0 (taah) (zcc _)
  rw [pre_zero] at ih ⊢
  rw [ex_cons]
  simp at ih ⊢
  omega
 | x :: l, k + 1, h, h1, h2 => by
  have ih := pre_ex_eq t l k (taba) (fun i hi hk => h1 (i + 1) (by simpa using hi) (by omega)) (fun i hi hk => h2 (i + 1) (by simpa using hi) (by omega))
  have hx : t ≤ x := h1 0 (taah) (by omega)
  rw [pre_cons, ex_cons, Int.natCast_add, Int.add_mul]
  simp only [Int.natCast_one, Int.one_mul]
  omega
theorem cut_exists (t : Int) : ∀ (l : List Int), Desc l → ∃ k, k ≤ l.length ∧ (∀ i (h : i < l.length), i < k → t ≤ l[i]) ∧ (∀ i (h : i < l.length), k ≤ i → l[i] ≤ t)
 | [], _ => ⟨0, zcc _, fun i h => absurd h (Nat.not_lt_zero _), fun i h => absurd h (Nat.not_lt_zero _)⟩
 | x :: l, hd => by
  unfold Desc at hd
  rw [List.pairwise_cons] at hd
  by_cases hx : t ≤ x
  · obtain ⟨k, h1, h2, h3⟩ := cut_exists t l hd.2
    refine ⟨k + 1, by simpa using h1, fun i h hi => ?_, fun i h hi => ?_⟩
    · cases i with
      | zero => exact hx
      | succ i => exact h2 i (taba) (by omega)
    · cases i with
      | zero => omega
      | succ i => exact h3 i (taba) (by omega)
  · refine ⟨0, Nat.zero_le _, fun i h hi => absurd hi (Nat.not_lt_zero _), fun i h _ => ?_⟩
    cases i with
    | zero =>
     show x ≤ t
     omega
    | succ i =>
     have hi : i < l.length := by simpa using h
     have := hd.1 l[i] (List.getElem_mem hi)
     show l[i] ≤ t
     omega
theorem ex_pre {l : List Int} (hd : Desc l) (t : Int) : ∃ k, k ≤ l.length ∧ pre l k = k * t + ex l t := by
 obtain ⟨k, h1, h2, h3⟩ := cut_exists t l hd
 exact ⟨k, h1, pre_ex_eq t l k h1 h2 h3⟩
theorem pre_at {l : List Int} (hd : Desc l) (m : Nat) (hm : m < l.length) : pre l (m + 1) = (m + 1 : Nat) * rd l (m : Int) + ex l (rd l (m : Int)) := by
 refine pre_ex_eq _ l (m + 1) hm (fun i h hi => ?_) (fun i h hi => ?_)
 · have := desc_rd hd (show i ≤ m by omega) hm
   rw [rdn h] at this
   exact this
 · have := desc_rd hd (show m ≤ i by omega) h
   rw [rdn h] at this
   exact this
theorem dom_ex {x y : List Int} (hx : Desc x) (hy : Desc y) : Dom y x ↔ x.length = y.length ∧ x.sum = y.sum ∧ ∀ t, ex x t ≤ ex y t := by
 unfold Dom
 constructor
 · rintro ⟨h1, h2, h3⟩
   refine ⟨h1.symm, h2.symm, fun t => ?_⟩
   obtain ⟨k, hk, e⟩ := ex_pre hx t
   have a := h3 k; have b := pre_ex t y k (by omega)
   omega
 · rintro ⟨h1, h2, h3⟩
   refine ⟨h1.symm, h2.symm, fun m => ?_⟩
   cases m with
   | zero => rw [pre_zero, pre_zero]; exact Int.le_refl _
   | succ m =>
    by_cases hm : m < y.length
    · have a := pre_at hy m hm
      have b := pre_ex (rd y (m : Int)) x (m + 1) (by omega)
      have c := h3 (rd y (m : Int))
      omega
    · rw [pre_all (by omega), pre_all (by omega)]
      omega
theorem maj_ex (a b : List Int) : majB a b = true ↔ a.length = b.length ∧ a.sum = b.sum ∧ ∀ t, ex a t ≤ ex b t := by
 rw [majB_dom, dom_ex (descL_desc a) (descL_desc b), descL_length, descL_length, descL_sum, descL_sum]
 simp only [ex_desc]
theorem maj_refl (a : List Int) : majB a a = true := (maj_ex a a).2 ⟨rfl, rfl, fun _ => Int.le_refl _⟩
theorem sum_ex_low : ∀ (l : List Int) (t : Int), (∀ x ∈ l, t ≤ x) → ex l t = l.sum - l.length * t
 | [], t, _ => by simp [ex_nil]
 | x :: l, t, h => by
  have ih := sum_ex_low l t (fun y hy => h y (List.mem_cons_of_mem _ hy))
  have := h x List.mem_cons_self
  rw [ex_cons, ih, List.sum_cons, List.length_cons, Int.natCast_add, Int.add_mul]
  simp only [Int.natCast_one, Int.one_mul]
  omega
theorem ex_high : ∀ (l : List Int) (t : Int), (∀ x ∈ l, x ≤ t) → ex l t = 0
 | [], t, _ => rfl
 | x :: l, t, h => by
  have ih := ex_high l t (fun y hy => h y (List.mem_cons_of_mem _ hy))
  have := h x List.mem_cons_self
  rw [ex_cons, ih]
  omega
theorem gt_ex : ∀ (l : List Int) (j : Nat), ex l (j : Int) - ex l ((j + 1 : Nat) : Int) = (gtN l j : Int)
 | [], j => by simp [ex_nil, gtN]
 | x :: l, j => by
  have ih := gt_ex l j
  unfold gtN at ih ⊢
  rw [ex_cons, ex_cons, List.countP_cons]
  by_cases h : (j : Int) < x
  · rw [if_pos (taba)]
    omega
  · rw [if_neg (taba)]
    omega
theorem conj_pre (l : List Int) (n : Int) (h0 : 0 ≤ n) (hl : l.length ≤ 1000000) (hp : ∀ x ∈ l, 0 ≤ x) : ∀ m : Nat, m ≤ n.toNat → pre (conjL l n) m = l.sum - ex l (m : Int)
 | 0, _ => by
  rw [pre_zero, show ((0 : Nat) : Int) = 0 from rfl, sum_ex_low l 0 hp]
  simp
 | m + 1, h => by
  have ih := conj_pre l n h0 hl hp m (by omega)
  have hlen : (conjL l n).length = n.toNat := conjL_length l n
  have hg := gt_ex l m
  rw [pre_succ (by omega), ih]
  have e : rd (conjL l n) (m : Int) = (gtN l m : Int) := by
   rw [rdn (by omega)]
   simp only [conjL_eq l n h0 hl, mapR_get]
  rw [e]
  omega
theorem conj_sum (l : List Int) (n : Int) (h0 : 0 ≤ n) (hl : l.length ≤ 1000000) (hp : ∀ x ∈ l, 0 ≤ x ∧ x ≤ n) : (conjL l n).sum = l.sum := by
 have h := conj_pre l n h0 hl (fun x hx => (hp x hx).1) n.toNat (zcc _)
 rw [pre_all (taco), show ((n.toNat : Nat) : Int) = n by omega, ex_high l n (fun x hx => (hp x hx).2)] at h
 omega
theorem conj_turn (a b : List Int) (n : Int) (h0 : 0 ≤ n) (hab : a.length = b.length) (hl : a.length ≤ 1000000) (ha : ∀ x ∈ a, 0 ≤ x ∧ x ≤ n) (hb : ∀ x ∈ b, 0 ≤ x ∧ x ≤ n) : majB a b = true ↔ majB (conjL b n) (conjL a n) = true := by
 have da : Desc (conjL a n) := conjL_desc a n h0 hl
 have db : Desc (conjL b n) := conjL_desc b n h0 (by omega)
 rw [majB_dom (conjL b n), descL_of_desc da, descL_of_desc db, maj_ex]
 unfold Dom
 rw [conjL_length, conjL_length, conj_sum a n h0 hl ha, conj_sum b n h0 (by omega) hb]
 constructor
 · rintro ⟨h1, h2, h3⟩
   refine ⟨rfl, h2, fun m => ?_⟩
   by_cases hm : m ≤ n.toNat
   · have := h3 (m : Int)
     rw [conj_pre a n h0 hl (fun x hx => (ha x hx).1) m hm, conj_pre b n h0 (by omega) (fun x hx => (hb x hx).1) m hm]
     omega
   · rw [pre_all (taco), pre_all (taco), conj_sum a n h0 hl ha, conj_sum b n h0 (by omega) hb]
     omega
 · rintro ⟨_, h2, h3⟩
   refine ⟨hab, h2, fun t => ?_⟩
   rcases Int.lt_or_le t 0 with ht | ht
   · rw [sum_ex_low a t (fun x hx => by have := ha x hx; omega), sum_ex_low b t (fun x hx => by have := hb x hx; omega), hab]
     omega
   · obtain ⟨m, rfl⟩ := Int.eq_ofNat_of_zero_le ht
     by_cases hm : m ≤ n.toNat
     · have := h3 m
       rw [conj_pre a n h0 hl (fun x hx => (ha x hx).1) m hm, conj_pre b n h0 (by omega) (fun x hx => (hb x hx).1) m hm] at this
       have e : ((m : Nat) : Int) = Int.ofNat m := rfl
       omega
     · rw [ex_high a _ (fun x hx => by have := ha x hx; have e : ((m : Nat) : Int) = Int.ofNat m := rfl; omega), ex_high b _ (fun x hx => by have := hb x hx; have e : ((m : Nat) : Int) = Int.ofNat m := rfl; omega)]
       exact Int.le_refl _
theorem gt_desc : ∀ (d : List Int), Desc d → ∀ (i j : Nat) (h : i < d.length), i < gtN d j ↔ (j : Int) < d[i]
 | [], _, i, j, h => by simp at h
 | x :: l, hd, i, j, h => by
  unfold Desc at hd
  rw [List.pairwise_cons] at hd
  have hz : ¬ (j : Int) < x → gtN l j = 0 := fun hx => by
   unfold gtN
   rw [List.countP_eq_zero]
   intro y hy
   have := hd.1 y hy
   simp
   omega
  have e : gtN (x :: l) j = gtN l j + if (j : Int) < x then 1 else 0 := by
   unfold gtN
   rw [List.countP_cons]
   by_cases h : (j : Int) < x <;> simp [h]
  rw [e]
  cases i with
  | zero =>
   by_cases hx : (j : Int) < x
   · simp [hx]
   · simp [hx, hz hx]
  | succ i =>
   have hi : i < l.length := by simpa using h
   have ih := gt_desc l hd.2 i j hi
   by_cases hx : (j : Int) < x
   · simp only [if_pos hx, List.getElem_cons_succ]
     rw [← ih]
     omega
   · have := hd.1 l[i] (List.getElem_mem hi)
     simp only [if_neg hx, hz hx, List.getElem_cons_succ]
     omega
theorem gtN_perm {a b : List Int} (h : a.Perm b) (j : Nat) : gtN a j = gtN b j := h.countP_eq _
theorem count_below (v : Nat) : ∀ n : Nat, v ≤ n → (List.range n).countP (fun j => decide (j < v)) = v
 | 0, h => by
  have : v = 0 := by omega
  subst this; rfl
 | n + 1, h => by
  rw [List.range_succ, List.countP_append]
  by_cases hv : v ≤ n
  · rw [count_below v n hv]
    simp
    omega
  · have e : v = n + 1 := by omega
    subst e
    have : (List.range n).countP (fun j => decide (j < n + 1)) = (List.range n).length := by
     rw [List.countP_eq_length]
     intro j hj
     have := List.mem_range.1 hj
     simp
     omega
    rw [this]
    simp
theorem conj_conj (a : List Int) (n : Int) (h0 : 0 ≤ n) (hn : n ≤ 1000000) (hl : a.length ≤ 1000000) (hp : ∀ x ∈ a, 0 ≤ x ∧ x ≤ n) : conjL (conjL a n) (a.length : Int) = descL a := by
 have hc : (conjL a n).length = n.toNat := conjL_length a n
 rw [conjL_eq _ (a.length : Int) (by omega) (by omega)]
 refine List.ext_getElem (by rw [mapR_length, descL_length]; omega) fun i h1 h2 => ?_
 rw [mapR_get, conjL_eq a n h0 hl]
 have hi : i < (descL a).length := h2
 have hv := hp _ (descL_mem.1 (List.getElem_mem hi))
 have e : gtN (mapR n.toNat fun j => (gtN a j : Int)) i = ((descL a)[i]).toNat := by
  unfold gtN mapR
  rw [List.countP_map, ← count_below ((descL a)[i]).toNat n.toNat (by omega)]
  refine List.countP_congr fun j _ => ?_
  have := gt_desc (descL a) (descL_desc a) i j hi
  rw [gtN_perm (descL_perm a)] at this
  simp only [Function.comp, decide_eq_true_eq]
  unfold gtN at this
  omega
 rw [e]
 omega
theorem pre_fromL : ∀ (s : List Int) (l : Int) (m : Nat) (h : m < s.length), pre (fromL l s) (m + 1) = s[m] - l
 | [], l, m, h => by simp at h
 | x :: s, l, 0, h => by simp [fromL, pre]
 | x :: s, l, m + 1, h => by
  have ih := pre_fromL s x m (taba)
  rw [fromL, pre_cons, ih]
  simp only [List.getElem_cons_succ]
  omega
theorem meetL_pre (a b : List Int) (hl : a.length = b.length) : ∀ m : Nat, m ≤ a.length → pre (meetL a b) m = min (pre (descL a) m) (pre (descL b) m)
 | 0, _ => by simp [pre_zero]
 | m + 1, h => by
  have q1 : m < (partL a).length := by rw [partL_length]; omega
  have q2 : m < (partL b).length := by rw [partL_length]; omega
  have e1 : (partL a)[m] = 0 + pre (descL a) (m + 1) := psums_get _ _ _ q1
  have e2 : (partL b)[m] = 0 + pre (descL b) (m + 1) := psums_get _ _ _ q2
  have hm : m < (minL (partL a) (partL b)).length := by
   unfold minL
   rw [List.length_zipWith]
   omega
  unfold meetL
  have e3 : (minL (partL a) (partL b))[m] = min (partL a)[m] (partL b)[m] := by simp [minL]
  rw [pre_fromL _ _ m hm, e3, e1, e2]
  omega
theorem rd_pre {x : List Int} {m : Nat} (h : m < x.length) : rd x (m : Int) = pre x (m + 1) - pre x m := by
 rw [pre_succ h]
 omega
theorem meetL_ranked (a b : List Int) (hl : a.length = b.length) : Desc (meetL a b) := by
 have hm := meetL_length a b hl
 refine desc_of_rd fun k hk => ?_
 have a1 := desc_rd (descL_desc a) (show k ≤ k + 1 by omega) (taau)
 have b1 := desc_rd (descL_desc b) (show k ≤ k + 1 by omega) (taau)
 rw [rd_pre (x := descL a) (taau), rd_pre (x := descL a) (taau)] at a1
 rw [rd_pre (x := descL b) (taau), rd_pre (x := descL b) (taau)] at b1
 rw [rd_pre (x := meetL a b) (by omega), rd_pre (x := meetL a b) (by omega), meetL_pre a b hl _ (by omega), meetL_pre a b hl _ (by omega), meetL_pre a b hl _ (by omega)]
 omega
theorem meetL_sum (a b : List Int) (hf : fitB a b = true) : (meetL a b).sum = a.sum := by
 obtain ⟨hl, hs⟩ := (fitB_iff a b).1 hf
 have h := meetL_pre a b hl a.length (zcc _)
 rw [pre_all (tacy), pre_all (taau), pre_all (taau), descL_sum, descL_sum] at h
 omega
theorem meet_bd (a b c : List Int) (hf : fitB a b = true) : majB c (meetL a b) = true ↔ majB c a = true ∧ majB c b = true := by
 obtain ⟨hl, hs⟩ := (fitB_iff a b).1 hf
 have hm := meetL_length a b hl
 rw [majB_dom, majB_dom, majB_dom, descL_of_desc (meetL_ranked a b hl)]
 unfold Dom
 rw [hm, meetL_sum a b hf]
 simp only [descL_length, descL_sum]
 constructor
 · rintro ⟨h1, h2, h3⟩
   refine ⟨⟨h1, h2, fun m => ?_⟩, by omega, by omega, fun m => ?_⟩ <;> (by_cases h : m ≤ a.length)
   · have := h3 m
     rw [meetL_pre a b hl m h] at this
     omega
   · rw [pre_all (taau), pre_all (taau), descL_sum, descL_sum]
     omega
   · have := h3 m
     rw [meetL_pre a b hl m h] at this
     omega
   · rw [pre_all (taau), pre_all (taau), descL_sum, descL_sum]
     omega
 · rintro ⟨⟨h1, h2, h3⟩, _, _, h4⟩
   refine ⟨h1, h2, fun m => ?_⟩
   by_cases h : m ≤ a.length
   · have := h3 m
     have := h4 m
     rw [meetL_pre a b hl m h]
     omega
   · rw [pre_all (taau), pre_all (by rw [hm]; omega), descL_sum, meetL_sum a b hf]
     omega
theorem maj_antisymm {a b : List Int} (h1 : majB a b = true) (h2 : majB b a = true) : descL a = descL b := ((maj_both a b).1 ⟨h1, h2⟩).2
theorem tmod_bd (x n : Int) (h0 : 0 ≤ x) (hn : 0 < n) : 0 ≤ Int.tmod x n ∧ Int.tmod x n < n := by
 rw [Int.tmod_eq_emod_of_nonneg h0]
 exact ⟨Int.emod_nonneg _ (by omega), Int.emod_lt_of_pos _ hn⟩
theorem and255 (z : Int) : 0 ≤ Go.bits .and .u64 (IntKind.u64.wrap z / 1099511627776) 255 ∧ Go.bits .and .u64 (IntKind.u64.wrap z / 1099511627776) 255 ≤ 255 := by
 have e := IntKind.wrap_u64 z
 have h := bits_mask .u64 64 (by decide) wraps_u64 8 (by decide) (IntKind.u64.wrap z / 1099511627776) (by omega) (by omega)
 have h' : Go.bits .and .u64 (IntKind.u64.wrap z / 1099511627776) 255 = IntKind.u64.wrap z / 1099511627776 % 256 := by simpa using h
 rw [h']
 omega
def Bytes (l : List Int) : Prop := l.length ≤ 1048576 ∧ ∀ x ∈ l, 0 ≤ x ∧ x ≤ 255
theorem next_ev (l : List Int) (hl : Bytes l) (a s : Int) (h0 : 0 ≤ a) (h1 : a ≤ 1000000000) : ∃ x s', spec_l1Cur_next.f l a s = some (x, a + 1, s') ∧ 0 ≤ x ∧ x ≤ 255 := by
 have hb := hl.1
 unfold spec_l1Cur_next.f
 rw [w64 (x := a + 1) (by omega) (by omega)]
 by_cases c : a < (l.length : Int)
 · simp only [if_pos c, if_pos h0]
   have hx := hl.2 _ (rd_mem h0 c)
   by_cases c2 : a + 1 ≤ (l.length : Int)
   · simp only [if_pos c2]
     refine ⟨_, _, rfl, ?_⟩
     rw [w64 (by omega) (by omega)]
     exact hx
   · omega
 · simp only [if_neg c]
   by_cases c2 : a + 1 ≤ (l.length : Int)
   · omega
   · simp only [if_neg c2]
     refine ⟨_, _, rfl, ?_⟩
     have := and255 (IntKind.u64.wrap (IntKind.u64.wrap (s * 6364136223846793005) + 0) + 1442695040888963407)
     rw [w64 (by omega) (by omega)]
     exact this
theorem pick_ev (l : List Int) (hl : Bytes l) (a s n : Int) (h0 : 0 ≤ a) (h1 : a ≤ 900000000) : ∃ x a' s', spec_l1Cur_pick.f l a s n = some (x, a', s') ∧ 0 ≤ x ∧ (x = 0 ∨ x < n) ∧ a ≤ a' ∧ a' ≤ a + 2 := by
 unfold spec_l1Cur_pick.f
 by_cases c : n ≤ 1
 · simp only [if_pos c]
   exact ⟨_, _, _, rfl, by omega, by omega, by omega, by omega⟩
 · simp only [if_neg c]
   obtain ⟨x, s1, e1, b1, b2⟩ := next_ev l hl a s h0 (by omega)
   simp only [e1, zbb]
   by_cases c2 : n > 200
   · simp only [if_pos c2]
     obtain ⟨y, s2, e2, b3, b4⟩ := next_ev l hl (a + 1) s1 (by omega) (by omega)
     simp only [e2, zbb, if_neg (show ¬ n = 0 by omega)]
     have t := tmod_bd (x * 256 + y) n (by omega) (by omega)
     refine ⟨_, _, _, rfl, ?_⟩
     rw [w64 (x := x * 256) (by omega) (by omega), w64 (x := x * 256 + y) (by omega) (by omega)]
     omega
   · simp only [if_neg c2, if_neg (show ¬ n = 0 by omega)]
     have t := tmod_bd x n (by omega) (by omega)
     exact ⟨_, _, _, rfl, by omega, by omega, by omega, by omega⟩
theorem one_ev (l : List Int) (hl : Bytes l) (a s n : Int) (h0 : 0 ≤ a) (h1 : a ≤ 900000000) : ∃ x a' s', spec_l1Cur_one.f l a s n = some (x, a', s') ∧ a ≤ a' ∧ a' ≤ a + 2 := by
 unfold spec_l1Cur_one.f
 obtain ⟨x, a', s', e, _, _, b1, b2⟩ := pick_ev l hl a s n h0 h1
 simp only [e, zbb]
 exact ⟨_, _, _, rfl, b1, b2⟩
theorem among_ev (l : List Int) (hl : Bytes l) (a s : Int) (L : List Int) (hL : 0 < L.length) (h0 : 0 ≤ a) (h1 : a ≤ 900000000) : ∃ x a' s', spec_l1Cur_among.f l a s L = some (x, a', s') ∧ x ∈ L ∧ a ≤ a' ∧ a' ≤ a + 2 := by
 unfold spec_l1Cur_among.f
 obtain ⟨x, a', s', e, b0, b, b1, b2⟩ := pick_ev l hl a s (L.length : Int) h0 h1
 simp only [e, zbb, if_pos b0, if_pos (show x < (L.length : Int) by omega)]
 exact ⟨_, _, _, rfl, rd_mem b0 (by omega), b1, b2⟩
structure Bd (n m : Int) (l : List Int) : Prop where
 len : (l.length : Int) ≤ n
 low : ∀ x ∈ l, -1 ≤ x
 high : ∀ x ∈ l, x ≤ m
theorem Bd.le {n m n' m' : Int} {l : List Int} (h : Bd n m l) (h1 : n ≤ n') (h2 : m ≤ m') : Bd n' m' l := ⟨by have := h.len; omega, h.low, fun x hx => by have := h.high x hx; omega⟩
theorem Bd.snoc {n m : Int} {l : List Int} (h : Bd n m l) {x : Int} (h1 : -1 ≤ x) (h2 : x ≤ m) : Bd (n + 1) m (l ++ [x]) := by
 refine ⟨by have := h.len; rw [List.length_append]; simp; omega, fun y hy => ?_, fun y hy => ?_⟩
 · rcases List.mem_append.1 hy with hy | hy
   · exact h.low y hy
   · have : y = x := by simpa using hy
     omega
 · rcases List.mem_append.1 hy with hy | hy
   · exact h.high y hy
   · have : y = x := by simpa using hy
     omega
theorem Bd.nil (n m : Int) (h : 0 ≤ n) : Bd n m [] := ⟨taba, fun x hx => by simp at hx, fun x hx => by simp at hx⟩
theorem list_l (l : List Int) (hl : Bytes l) (m : Int) (hm : 0 ≤ m) (hm2 : m ≤ 1000) : ∀ (d : Nat) (acc : List Int) (a s : Int), (d : Int) ≤ 10 → acc.length ≤ 10 → 0 ≤ a → a ≤ 800000000 + 10 * (10 - (d : Int)) → Bd (10 - (d : Int)) m acc → ∃ r a' s', Ev (fun k => spec_l1Cur_list.l0 k m acc (d : Int) l a s) (r, a', s') ∧ Bd 10 m r ∧ a ≤ a' ∧ a' ≤ a + 2 * (d : Int)
 | 0, acc, a, s, hd, hc, h0, h1, hb => by
  refine ⟨acc, a, s, Ev.succ ?_, hb.le (by omega) (by omega), by omega, by omega⟩
  simp only [spec_l1Cur_list.l0, if_neg (show ¬ ((0 : Nat) : Int) > 0 by omega)]
  exact Ev.now _
 | d + 1, acc, a, s, hd, hc, h0, h1, hb => by
  obtain ⟨x, a1, s1, e, b0, b, b1, b2⟩ := pick_ev l hl a s (m + 1) h0 (by omega)
  have hl1 := hb.len
  obtain ⟨r, a', s', h, hr, q1, q2⟩ := list_l l hl m hm hm2 d (acc ++ [x]) a1 s1 (by omega) (tacp) (by omega) (by omega) ((hb.snoc (by omega) (by omega)).le (by omega) (by omega))
  refine ⟨r, a', s', Ev.succ ?_, hr, by omega, by omega⟩
  simp only [spec_l1Cur_list.l0, if_pos (show ((d + 1 : Nat) : Int) > 0 by omega), w64 (x := m + 1) (by omega) (by omega), e, zbb, if_pos (show acc.length < 17592186044416 by omega), w64 (x := ((d + 1 : Nat) : Int) - 1) (by omega) (by omega)]
  rw [show ((d + 1 : Nat) : Int) - 1 = (d : Int) by omega]
  exact h
theorem list_ev (l : List Int) (hl : Bytes l) (m : Int) (hm : 0 ≤ m) (hm2 : m ≤ 1000) (a s : Int) (h0 : 0 ≤ a) (h1 : a ≤ 700000000) : ∃ r a' s', Ev (fun k => spec_l1Cur_list.f k l a s m) (r, a', s') ∧ Bd 10 m r ∧ a ≤ a' ∧ a' ≤ a + 100 := by
 obtain ⟨x, a1, s1, e, b0, b, b1, b2⟩ := pick_ev l hl a s 6 h0 (by omega)
 obtain ⟨d, hd⟩ := Int.eq_ofNat_of_zero_le (show 0 ≤ 1 + x by omega)
 have hd' : 1 + x = (d : Int) := hd
 obtain ⟨r, a', s', h, hr, q1, q2⟩ := list_l l hl m hm hm2 d [] a1 s1 (by omega) (taah) (by omega) (by omega) (Bd.nil _ _ (by omega))
 refine ⟨r, a', s', ?_, hr, by omega, by omega⟩
 unfold spec_l1Cur_list.f
 simp only [e, zbb, w64 (x := 1 + x) (by omega) (by omega)]
 rw [hd']
 exact h
theorem any_l (l : List Int) (hl : Bytes l) (m : Int) (hm : 9 ≤ m) (hm2 : m ≤ 1000) : ∀ (d : Nat) (acc : List Int) (a s : Int), d ≤ 12 → acc.length + d = 12 → 0 ≤ a → a ≤ 800000000 + 10 * (acc.length : Int) → Bd 12 m acc → ∃ r a' s', Ev (fun k => spec_l1Cur_anyList.l0 k acc l a s) (r, a', s') ∧ Bd 12 m r ∧ a ≤ a' ∧ a' ≤ a + 2 + 4 * (d : Int)
 | 0, acc, a, s, hd, hc, h0, h1, hb => by
  obtain ⟨x, a1, s1, e, b0, b, b1, b2⟩ := pick_ev l hl a s 2 h0 (by omega)
  refine ⟨acc, a1, s1, Ev.succ ?_, hb, by omega, by omega⟩
  simp only [spec_l1Cur_anyList.l0, e, zbb, w64 (x := 8 + x) (by omega) (by omega), if_neg (show ¬ (acc.length : Int) < 8 + x by omega)]
  exact Ev.now _
 | d + 1, acc, a, s, hd, hc, h0, h1, hb => by
  obtain ⟨x, a1, s1, e, b0, b, b1, b2⟩ := pick_ev l hl a s 2 h0 (by omega)
  by_cases c : (acc.length : Int) < 8 + x
  · obtain ⟨y, a2, s2, e2, c0, c3, c1, c2⟩ := pick_ev l hl a1 s1 9 (by omega) (by omega)
    have hbb : Bd 12 m (acc ++ [y]) := by
     refine ⟨tacp, fun z hz => ?_, fun z hz => ?_⟩
     · rcases List.mem_append.1 hz with hz | hz
       · exact hb.low z hz
       · have : z = y := by simpa using hz
         omega
     · rcases List.mem_append.1 hz with hz | hz
       · exact hb.high z hz
       · have : z = y := by simpa using hz
         omega
    obtain ⟨r, a', s', h, hr, q1, q2⟩ := any_l l hl m hm hm2 d (acc ++ [y]) a2 s2 (by omega) (tacp) (by omega) (tacp) hbb
    refine ⟨r, a', s', Ev.succ ?_, hr, by omega, by omega⟩
    simp only [spec_l1Cur_anyList.l0, e, zbb, w64 (x := 8 + x) (by omega) (by omega), if_pos c, e2, if_pos (show acc.length < 17592186044416 by omega)]
    exact h
  · refine ⟨acc, a1, s1, Ev.succ ?_, hb, by omega, by omega⟩
    simp only [spec_l1Cur_anyList.l0, e, zbb, w64 (x := 8 + x) (by omega) (by omega), if_neg c]
    exact Ev.now _
theorem anyList_ev (l : List Int) (hl : Bytes l) (m : Int) (hm : 0 ≤ m) (hm2 : m ≤ 1000) (a s : Int) (h0 : 0 ≤ a) (h1 : a ≤ 600000000) : ∃ r a' s', Ev (fun k => spec_l1Cur_anyList.f k l a s m) (r, a', s') ∧ Bd 12 (max m 61) r ∧ a ≤ a' ∧ a' ≤ a + 200 := by
 obtain ⟨L, a1, s1, e1, hL, b1, b2⟩ := list_ev l hl m hm hm2 a s h0 (by omega)
 obtain ⟨x, a2, s2, e2, c0, c3, c1, c2⟩ := pick_ev l hl a1 s1 14 (by omega) (by omega)
 have hlen := hL.len
 have hL' : Bd 12 (max m 61) L := hL.le (by omega) (by omega)
 by_cases t0 : x = 0
 · obtain ⟨y, a3, s3, e3, hy, d1, d2⟩ := among_ev l hl a2 s2 [-1, 0, 60, 61] (taah) (by omega) (by omega)
   have hy' : -1 ≤ y ∧ y ≤ 61 := by
    simp at hy
    omega
   refine ⟨L ++ [y], a3, s3, ?_, (Bd.snoc (hL.le (n' := 10) (m' := max m 61) (by omega) (by omega)) hy'.1 (by omega)).le (by omega) (by omega), by omega, by omega⟩
   unfold spec_l1Cur_anyList.f
   refine Ev.bind e1 ?_
   simp only [e2, zbb, if_pos t0, e3, if_pos (show L.length < 17592186044416 by omega)]
   exact Ev.now _
 · by_cases t1 : x = 1
   · obtain ⟨r, a3, s3, e3, hr, d1, d2⟩ := any_l l hl (max m 61) (by omega) (by omega) (12 - L.length) L a2 s2 (by omega) (by omega) (by omega) (by omega) hL'
     refine ⟨r, a3, s3, ?_, hr, by omega, by omega⟩
     unfold spec_l1Cur_anyList.f
     refine Ev.bind e1 ?_
     simp only [e2, zbb, if_neg t0, if_pos t1]
     exact e3
   · by_cases t2 : x = 2
     · refine ⟨[], a2, s2, ?_, Bd.nil _ _ (by omega), by omega, by omega⟩
       unfold spec_l1Cur_anyList.f
       refine Ev.bind e1 ?_
       simp only [e2, zbb, if_neg t0, if_neg t1, if_pos t2]
       exact Ev.now _
     · refine ⟨L, a2, s2, ?_, hL', by omega, by omega⟩
       unfold spec_l1Cur_anyList.f
       refine Ev.bind e1 ?_
       simp only [e2, zbb, if_neg t0, if_neg t1, if_neg t2]
       exact Ev.now _
theorem Bd.set {n m : Int} {l : List Int} (h : Bd n m l) (i : Nat) {x : Int} (h1 : -1 ≤ x) (h2 : x ≤ m) : Bd n m (l.set i x) := by
 refine ⟨by rw [List.length_set]; exact h.len, fun y hy => ?_, fun y hy => ?_⟩
 · rcases List.mem_or_eq_of_mem_set hy with hy | rfl
   · exact h.low y hy
   · exact h1
 · rcases List.mem_or_eq_of_mem_set hy with hy | rfl
   · exact h.high y hy
   · exact h2
theorem fit_end (l : List Int) (hl : Bytes l) (b acc : List Int) (n : Int) (hb : Bd 12 100 b) (hx : Bd 12 100 acc) (a s : Int) (h0 : 0 ≤ a) (h1 : a ≤ 800000000) : ∃ x y a' s', Ev (fun k => spec_l1Cur_fitting.j1 k b acc n false l a s) (x, y, a', s') ∧ Bd 12 100 x ∧ Bd 12 100 y ∧ a ≤ a' ∧ a' ≤ a + 10 := by
 obtain ⟨t, a1, s1, e, b1, b2⟩ := one_ev l hl a s 5 h0 (by omega)
 cases t with
 | true =>
  refine ⟨b, acc, a1, s1, Ev.succ ?_, hb, hx, by omega, by omega⟩
  simp only [spec_l1Cur_fitting.j1, zbk, if_false, e, zbb, if_true]
  exact Ev.now _
 | false =>
  refine ⟨acc, b, a1, s1, Ev.succ ?_, hx, hb, by omega, by omega⟩
  simp only [spec_l1Cur_fitting.j1, zbk, if_false, e, zbb]
  exact Ev.now _
theorem fit_l (l : List Int) (hl : Bytes l) (b : List Int) (hb : Bd 12 100 b) : ∀ (d : Nat) (acc : List Int) (a s : Int), (d : Int) ≤ 12 → 0 ≤ a → a ≤ 700000000 - 100 * (d : Int) → Bd 12 (80 - (d : Int)) acc → ∃ x y a' s', Ev (fun k => spec_l1Cur_fitting.l0 k b acc (d : Int) l a s) (x, y, a', s') ∧ Bd 12 100 x ∧ Bd 12 100 y ∧ a ≤ a' ∧ a' ≤ a + 10 + 30 * (d : Int) := by
 intro d
 induction d with
 | zero =>
  intro acc a s hd h0 h1 hacc
  obtain ⟨x, y, a', s', e, q1, q2, q3, q4⟩ := fit_end l hl b acc ((0 : Nat) : Int) hb (hacc.le (by omega) (by omega)) a s h0 (by omega)
  refine ⟨x, y, a', s', Ev.succ ?_, q1, q2, q3, by omega⟩
  simp only [spec_l1Cur_fitting.l0, if_neg (show ¬ ((0 : Nat) : Int) > 0 by omega)]
  exact e
 | succ d ih =>
  intro acc a s hd h0 h1 hacc
  have hlen := hacc.len
  have hbig : Bd 12 100 acc := hacc.le (by omega) (by omega)
  by_cases c : (acc.length : Int) > 1
  · obtain ⟨i, a1, s1, e1, p0, p, p1, p2⟩ := pick_ev l hl a s (acc.length : Int) h0 (by omega)
    obtain ⟨j, a2, s2, e2, r0, r, r1, r2⟩ := pick_ev l hl a1 s1 (acc.length : Int) (by omega) (by omega)
    have hi : i < (acc.length : Int) := by omega
    have hj : j < (acc.length : Int) := by omega
    have b1 := hacc.high _ (rd_mem p0 hi)
    have b2 := hacc.low _ (rd_mem p0 hi)
    have keep : ∀ (a3 s3 : Int), a2 ≤ a3 → a3 ≤ a2 + 2 → ∃ x y a' s', Ev (fun k => spec_l1Cur_fitting.l0 k b acc (wrap64 (((d + 1 : Nat) : Int) - 1)) l a3 s3) (x, y, a', s') ∧ Bd 12 100 x ∧ Bd 12 100 y ∧ a3 ≤ a' ∧ a' ≤ a3 + 10 + 30 * (d : Int) := fun a3 s3 g1 g2 => by
     rw [w64 (by omega) (by omega), show ((d + 1 : Nat) : Int) - 1 = (d : Int) by omega]
     exact ih acc a3 s3 (by omega) (by omega) (by omega) (hacc.le (by omega) (by omega))
    have move : rd acc i > 0 → ∀ (a3 s3 : Int), a2 ≤ a3 → a3 ≤ a2 + 2 → ∃ x y a' s', Ev (fun k => spec_l1Cur_fitting.l0 k b ((acc.set i.toNat (wrap64 (rd acc i - 1))).set j.toNat (wrap64 (rd (acc.set i.toNat (wrap64 (rd acc i - 1))) j + 1))) (wrap64 (((d + 1 : Nat) : Int) - 1)) l a3 s3) (x, y, a', s') ∧ Bd 12 100 x ∧ Bd 12 100 y ∧ a3 ≤ a' ∧ a' ≤ a3 + 10 + 30 * (d : Int) := fun hp a3 s3 g1 g2 => by
     rw [w64 (x := ((d + 1 : Nat) : Int) - 1) (by omega) (by omega), show ((d + 1 : Nat) : Int) - 1 = (d : Int) by omega, w64 (x := rd acc i - 1) (by omega) (by omega)]
     have h1 : Bd 12 (80 - ((d + 1 : Nat) : Int)) (acc.set i.toNat (rd acc i - 1)) := hacc.set _ (by omega) (by omega)
     have c1 := h1.high _ (rd_mem (l := acc.set i.toNat (rd acc i - 1)) r0 (by rw [List.length_set]; exact hj))
     have c2 := h1.low _ (rd_mem (l := acc.set i.toNat (rd acc i - 1)) r0 (by rw [List.length_set]; exact hj))
     rw [w64 (x := rd (acc.set i.toNat (rd acc i - 1)) j + 1) (by omega) (by omega)]
     exact ih _ a3 s3 (by omega) (by omega) (by omega) ((h1.le (n' := 12) (m' := 80 - (d : Int)) (by omega) (by omega)).set _ (by omega) (by omega))
    have body : ∃ x y a' s', Ev (fun k => spec_l1Cur_fitting.j1 k b acc ((d + 1 : Nat) : Int) true l a s) (x, y, a', s') ∧ Bd 12 100 x ∧ Bd 12 100 y ∧ a ≤ a' ∧ a' ≤ a + 20 + 30 * (d : Int) := by
     by_cases t1 : rd acc i > 0
     · by_cases t2 : rd acc i > rd acc j
       · obtain ⟨x, y, a', s', h, q1, q2, q3, q4⟩ := move t1 a2 s2 (by omega) (by omega)
         refine ⟨x, y, a', s', Ev.succ ?_, q1, q2, by omega, by omega⟩
         simp only [spec_l1Cur_fitting.j1, if_true, e1, e2, zbb, if_pos p0, if_pos hi, if_pos t1, if_pos r0, if_pos hj, if_pos t2]
         exact h
       · obtain ⟨t, a3, s3, e3, f1, f2⟩ := one_ev l hl a2 s2 4 (by omega) (by omega)
         cases t with
         | true =>
          obtain ⟨x, y, a', s', h, q1, q2, q3, q4⟩ := move t1 a3 s3 (by omega) (by omega)
          refine ⟨x, y, a', s', Ev.succ ?_, q1, q2, by omega, by omega⟩
          simp only [spec_l1Cur_fitting.j1, if_true, e1, e2, e3, zbb, if_pos p0, if_pos hi, if_pos t1, if_pos r0, if_pos hj, if_neg t2]
          exact h
         | false =>
          obtain ⟨x, y, a', s', h, q1, q2, q3, q4⟩ := keep a3 s3 (by omega) (by omega)
          refine ⟨x, y, a', s', Ev.succ ?_, q1, q2, by omega, by omega⟩
          simp only [spec_l1Cur_fitting.j1, if_true, e1, e2, e3, zbb, if_pos p0, if_pos hi, if_pos t1, if_pos r0, if_pos hj, if_neg t2, zbk, if_false]
          exact h
     · obtain ⟨x, y, a', s', h, q1, q2, q3, q4⟩ := keep a2 s2 (by omega) (by omega)
       refine ⟨x, y, a', s', Ev.succ ?_, q1, q2, by omega, by omega⟩
       simp only [spec_l1Cur_fitting.j1, if_true, e1, e2, zbb, if_pos p0, if_pos hi, if_neg t1]
       exact h
    obtain ⟨x, y, a', s', h, q1, q2, q3, q4⟩ := body
    refine ⟨x, y, a', s', Ev.succ ?_, q1, q2, by omega, by omega⟩
    simp only [spec_l1Cur_fitting.l0, if_pos (show ((d + 1 : Nat) : Int) > 0 by omega), zba c]
    exact h
  · obtain ⟨x, y, a', s', e, q1, q2, q3, q4⟩ := fit_end l hl b acc ((d + 1 : Nat) : Int) hb hbig a s h0 (by omega)
    refine ⟨x, y, a', s', Ev.succ ?_, q1, q2, q3, by omega⟩
    simp only [spec_l1Cur_fitting.l0, if_pos (show ((d + 1 : Nat) : Int) > 0 by omega), zbh c]
    exact e
theorem fitting_ev (l : List Int) (hl : Bytes l) (m : Int) (hm : 0 ≤ m) (hm2 : m ≤ 61) (a s : Int) (h0 : 0 ≤ a) (h1 : a ≤ 500000000) : ∃ x y a' s', Ev (fun k => spec_l1Cur_fitting.f k l a s m) (x, y, a', s') ∧ Bd 12 100 x ∧ Bd 12 100 y ∧ a ≤ a' ∧ a' ≤ a + 1000 := by
 obtain ⟨b, a1, s1, e1, hb, b1, b2⟩ := anyList_ev l hl m hm (by omega) a s h0 (by omega)
 obtain ⟨t, a2, s2, e2, c1, c2⟩ := one_ev l hl a1 s1 5 (by omega) (by omega)
 have hb' : Bd 12 100 b := hb.le (by omega) (by omega)
 cases t with
 | true =>
  obtain ⟨q, a3, s3, e3, hq, d1, d2⟩ := anyList_ev l hl m hm (by omega) a2 s2 (by omega) (by omega)
  refine ⟨q, b, a3, s3, ?_, hq.le (by omega) (by omega), hb', by omega, by omega⟩
  unfold spec_l1Cur_fitting.f
  refine Ev.bind e1 ?_
  simp only [e2, zbb, if_true]
  exact Ev.bind e3 (Ev.now _)
 | false =>
  obtain ⟨n, a3, s3, e3, n0, n1, d1, d2⟩ := pick_ev l hl a2 s2 12 (by omega) (by omega)
  obtain ⟨d, hd⟩ := Int.eq_ofNat_of_zero_le n0
  have hd' : n = (d : Int) := hd
  have hlen := hb.len
  obtain ⟨x, y, a', s', h, q1, q2, q3, q4⟩ := fit_l l hl b hb' d b a3 s3 (by omega) (by omega) (by omega) (hb.le (by omega) (by omega))
  refine ⟨x, y, a', s', ?_, q1, q2, by omega, by omega⟩
  unfold spec_l1Cur_fitting.f
  refine Ev.bind e1 ?_
  simp only [e2, zbb, zbk, if_false, l1Own_eq b (by omega), e3]
  rw [hd']
  exact h
theorem Bd.setn {n m : Int} {l : List Int} (h : Bd n m l) (i : Nat) {x : Int} (h1 : -1 ≤ x) (h2 : x ≤ m) : Bd n m (l.set i x) := by
 refine ⟨by rw [List.length_set]; exact h.len, fun y hy => ?_, fun y hy => ?_⟩
 · rcases List.mem_or_eq_of_mem_set hy with k | k
   · exact h.low y k
   · omega
 · rcases List.mem_or_eq_of_mem_set hy with k | k
   · exact h.high y k
   · omega
theorem drawJoin_ev (l : List Int) (hl : Bytes l) : ∃ x y, Ev (fun k => spec_DrawJoinOf.f k l) (x, y) ∧ Bd 12 102 x ∧ Bd 12 102 y := by
 obtain ⟨x, y, a, s, e, hx, hy, a0, a1⟩ := fitting_ev l hl 9 (by omega) (by omega) 0 0 (by omega) (by omega)
 have hx' : Bd 12 102 x := hx.le (by omega) (by omega)
 have hy' : Bd 12 102 y := hy.le (by omega) (by omega)
 have J : ∀ a s, Ev (fun k => spec_DrawJoinOf.j0 k x y false l a s) (x, y) := fun a s => Ev.succ (by simp only [spec_DrawJoinOf.j0, zbk, if_false]; exact Ev.now _)
 unfold spec_DrawJoinOf.f
 by_cases c : (x.length : Int) > 1
 · obtain ⟨t, a2, s2, e2, b0, b1⟩ := one_ev l hl a s 2 (by omega) (by omega)
   cases t with
   | false =>
    refine ⟨x, y, Ev.bind e ?_, hx', hy'⟩
    simp only [if_pos c, e2, zbb]
    exact J _ _
   | true =>
    obtain ⟨i, a3, s3, e3, i0, i1, c0, c1⟩ := pick_ev l hl a2 s2 (x.length : Int) (by omega) (by omega)
    obtain ⟨j, a4, s4, e4, j0, j1, d0, d1⟩ := pick_ev l hl a3 s3 (x.length : Int) (by omega) (by omega)
    have hi : i < (x.length : Int) := by omega
    have hj : j < (x.length : Int) := by omega
    by_cases ct : min (rd x i) 2 > 0
    · have m1 := rd_mem i0 hi
      have l1 := hx.high _ m1
      have hy1 : Bd 12 100 (x.set i.toNat (rd x i - min (rd x i) 2)) := hx.setn _ (by omega) (by omega)
      have hlen : (x.set i.toNat (rd x i - min (rd x i) 2)).length = x.length := List.length_set
      have m2 := rd_mem (l := x.set i.toNat (rd x i - min (rd x i) 2)) j0 (by omega)
      have l2 := hy1.high _ m2
      have l3 := hy1.low _ m2
      refine ⟨(x.set i.toNat (rd x i - min (rd x i) 2)).set j.toNat (rd (x.set i.toNat (rd x i - min (rd x i) 2)) j + min (rd x i) 2), y, Ev.bind e ?_, (hy1.le (by omega) (by omega)).setn _ (by omega) (by omega), hy'⟩
      simp only [if_pos c, e2, zbb]
      refine Ev.succ ?_
      simp only [spec_DrawJoinOf.j0, if_true, e3, e4, zbb, if_pos i0, if_pos hi, if_pos j0, if_pos hj, l1Least_eq, if_pos ct, w64 (x := rd x i - min (rd x i) 2) (by omega) (by omega), w64 (x := rd (x.set i.toNat (rd x i - min (rd x i) 2)) j + min (rd x i) 2) (by omega) (by omega)]
      exact Ev.now _
    · refine ⟨x, y, Ev.bind e ?_, hx', hy'⟩
      simp only [if_pos c, e2, zbb]
      refine Ev.succ ?_
      simp only [spec_DrawJoinOf.j0, if_true, e3, e4, zbb, if_pos i0, if_pos hi, l1Least_eq, if_neg ct]
      exact Ev.now _
 · refine ⟨x, y, Ev.bind e ?_, hx', hy'⟩
   simp only [if_neg c]
   exact J _ _
def rankingR (a : List Int) : List Int × Bool := if goodL a = true then (descL a, true) else ([], false)
theorem implRankingOf_ev (a : List Int) (h : a.length ≤ 1048576) : Ev (fun k => impl_RankingOf.f k a) (rankingR a) := by
 unfold impl_RankingOf.f rankingR
 refine Ev.bind (implIsList_ev a (by omega)) ?_
 by_cases hg : goodL a = true
 · simp only [hg, if_true, ranking_eq (good_sm hg), zbb]
   exact Ev.now _
 · simp only [if_neg hg]
   exact Ev.now _
def majR (a b : List Int) : Bool × Bool := if goodL a = true then (if goodL b = true then (majB a b, true) else (false, false)) else (false, false)
theorem implIsMajorized_ev (a b : List Int) (ha : a.length ≤ 1048576) (hb : b.length ≤ 1048576) : Ev (fun k => impl_IsMajorized.f k a b) (majR a b) := by
 unfold impl_IsMajorized.f majR
 refine Ev.bind (areLists_ev a b ha hb) ?_
 by_cases ga : goodL a = true
 · by_cases gb : goodL b = true
   · simp only [ga, gb, if_true]
     exact Ev.bind (isMajorized_ev a b (good_sm ga) (good_sm gb)) (Ev.now _)
   · simp only [ga, if_true, if_neg gb]
     exact Ev.now _
 · simp only [if_neg ga, zbk, if_false]
   exact Ev.now _
theorem slMax_l' (l : List Int) (hx : l.length ≤ 1048576) : ∀ (d i : Nat) (m : Int), i + d = l.length → ∃ r, Ev (fun k => slices_Max_int_int.l0 k l m (i : Int)) r ∧ ∀ n, (r ≤ n ↔ m ≤ n ∧ ∀ x ∈ l.drop i, x ≤ n)
 | 0, i, m, h => by
  refine ⟨m, Ev.succ ?_, fun n => ?_⟩
  · simp only [slices_Max_int_int.l0, if_neg (show ¬ (i : Int) < (l.length : Int) by omega)]
    exact Ev.now _
  · rw [List.drop_eq_nil_of_le (by omega)]
    simp
 | d + 1, i, m, h => by
  have hi : i < l.length := by omega
  obtain ⟨r, h1, h2⟩ := slMax_l' l hx d (i + 1) (mx m l[i]) (by omega)
  refine ⟨r, Ev.succ ?_, fun n => ?_⟩
  · simp only [slices_Max_int_int.l0, if_pos (show (i : Int) < (l.length : Int) by omega), if_pos (show (0 : Int) ≤ (i : Int) by omega), rdn hi, wsucc hi (by omega)]
    exact h1
  · rw [h2, List.drop_eq_getElem_cons hi]
    simp only [List.mem_cons, forall_eq_or_imp]
    have : mx m l[i] ≤ n ↔ m ≤ n ∧ l[i] ≤ n := by unfold mx; omega
    rw [this, and_assoc]
theorem slMax_ev' (l : List Int) (h0 : 0 < l.length) (hx : l.length ≤ 1048576) : ∃ r, Ev (fun k => slices_Max_int_int.f k l) r ∧ ∀ n, (r ≤ n ↔ ∀ x ∈ l, x ≤ n) := by
 obtain ⟨r, h1, h2⟩ := slMax_l' l hx (l.length - 1) 1 l[0] (by omega)
 refine ⟨r, ?_, fun n => ?_⟩
 · unfold slices_Max_int_int.f
   simp only [if_neg (show ¬ (l.length : Int) < 1 by omega), if_pos (show (0 : Int) < (l.length : Int) by omega), show rd l 0 = l[0] from rdn (i := 0) h0]
   exact h1
 · rw [h2]
   obtain ⟨x, t, rfl⟩ : ∃ x t, l = x :: t := by
    cases l with
    | nil => simp at h0
    | cons x t => exact ⟨x, t, rfl⟩
   simp
theorem slMax_good {l : List Int} (hg : goodL l = true) : ∃ r, Ev (fun k => slices_Max_int_int.f k l) r ∧ 0 ≤ r ∧ r ≤ 60 ∧ ∀ x ∈ l, x ≤ r := by
 have hb := (goodL_iff l).1 hg
 obtain ⟨r, h1, h2⟩ := slMax_ev' l (by omega) (by omega)
 refine ⟨r, h1, ?_, (h2 60).2 fun x hx => (hb.2.2 x hx).2, (h2 r).1 (Int.le_refl _)⟩
 have := (h2 r).1 (Int.le_refl _) _ (List.getElem_mem (show 0 < l.length by omega))
 have := (hb.2.2 _ (List.getElem_mem (show 0 < l.length by omega))).1
 omega
theorem specliMeet_l (p q : List Int) (hl : p.length = q.length) (hm : p.length ≤ 1000000) (hp : ∀ y ∈ p, 0 ≤ y ∧ y ≤ 1000000) (hq : ∀ y ∈ q, 0 ≤ y ∧ y ≤ 1000000) : Ev (fun k => spec_liMeet.l0 k p q [] (p.length : Int) 0) (fromL 0 (minL p q)) := by
 have hz : (minL p q).length = p.length := by unfold minL; rw [List.length_zipWith]; omega
 have h := ev_build (g := fun k acc i => spec_liMeet.l0 k p q acc (p.length : Int) i) (minL p q) (fromL 0 (minL p q))
  (Ev.succ (by
   simp only [spec_liMeet.l0, hz, if_neg (Int.lt_irrefl _)]
   exact Ev.bind (liFrom_ev _ (minL_bd p q hp hq) (by omega)) (Ev.now _)))
  (fun i h r hr => Ev.succ (by
   have hi : i < p.length := by rw [hz] at h; exact h
   have hj : i < q.length := by omega
   have e : (minL p q)[i] = min p[i] q[i] := by simp [minL]
   simp only [spec_liMeet.l0, if_pos (show (i : Int) < (p.length : Int) by omega), if_pos (show (i : Int) < (q.length : Int) by omega), if_pos (show (0 : Int) ≤ (i : Int) by omega), rdn hi, rdn hj, wsucc hi (by omega), l1Least_eq, zbb, if_pos (show ((minL p q).take i).length < 17592186044416 by rw [zax, hz]; omega)]
   rw [e] at hr
   exact hr)) p.length 0 (by rw [hz]; omega)
 exact h
theorem specliMeet_ev (a b : List Int) (ha : Sm a) (hb : Sm b) (hl : a.length = b.length) : Ev (fun k => spec_liMeet.f k a b) (meetS a b) := by
 unfold spec_liMeet.f meetS
 have h1 := ha.1
 refine Ev.bind (liSums_ev a ha) (Ev.bind (liSums_ev b hb) ?_)
 exact specliMeet_l _ _ (by rw [psums_length, psums_length, hl]) (by rw [psums_length]; omega) (sums_bd ha) (sums_bd hb)
def joinL (a b : List Int) : List Int := conjL (meetS (conjL a 60) (conjL b 60)) (a.length : Int)
def joinR (a b : List Int) : List Int × Bool := if goodL a = true then (if goodL b = true then (if fitB a b = true then (joinL a b, true) else ([], false)) else ([], false)) else ([], false)
theorem meetS_length (a b : List Int) (hl : a.length = b.length) : (meetS a b).length = a.length := by
 unfold meetS minL
 rw [fromL_length, List.length_zipWith, psums_length, psums_length]
 omega
theorem joinL_max (a b : List Int) (m : Int) (h0 : 0 ≤ m) (hm : m ≤ 60) (hla : a.length ≤ 1000) (hlb : b.length ≤ 1000) (ha : ∀ x ∈ a, x ≤ m) (hb : ∀ x ∈ b, x ≤ m) : conjL (meetS (conjL a m) (conjL b m)) (a.length : Int) = joinL a b := by
 unfold joinL
 rw [conjL_more a m 60 h0 hm (by omega) ha, conjL_more b m 60 h0 hm (by omega) hb, meetS_zeros _ _ _ (taca), conjL_zeros _ _ _ (by omega)]
theorem specJoinOf_ev (a b : List Int) (ha : a.length ≤ 1048576) (hb : b.length ≤ 1048576) : Ev (fun k => spec_JoinOf.f k a b) (joinR a b) := by
 unfold spec_JoinOf.f joinR
 have J : Ev (fun k => spec_JoinOf.j0 k a b true) (([] : List Int), false) := Ev.succ (by simp only [spec_JoinOf.j0, if_true]; exact Ev.now _)
 refine Ev.bind (liGood_ev a (by omega)) (Ev.ite (fun ga => ?_) (fun _ => J))
 refine Ev.bind (liGood_ev b (by omega)) (Ev.ite (fun gb => ?_) (fun _ => J))
 refine Ev.bind (liFit_ev a b (good_sm ga) (good_sm gb)) ?_
 by_cases hf : fitB a b = true
 · simp only [hf, Bool.not_true, if_true]
   refine Ev.succ ?_
   simp only [spec_JoinOf.j0, zbk, if_false]
   have hla := (good_sm ga).1
   have hlb := (good_sm gb).1
   refine Ev.bind (liConjugate_ev a 60 ha (by omega) (by omega)) (Ev.bind (liConjugate_ev b 60 hb (by omega) (by omega)) (Ev.bind (specliMeet_ev _ _ (conjL_bd a 60 (by omega) hla (by omega)) (conjL_bd b 60 (by omega) hlb (by omega)) (taca)) (Ev.bind (liConjugate_ev _ _ ?_ (by omega) (by omega)) (Ev.now _))))
   rw [meetS_length _ _ (taca), conjL_length]
   omega
 · have hf' : fitB a b = false := zbg.2 hf
   simp only [hf', Bool.not_false, zbk, if_false]
   exact J
theorem implJoinOf_ev (a b : List Int) (ha : a.length ≤ 1048576) (hb : b.length ≤ 1048576) : Ev (fun k => impl_JoinOf.f k a b) (joinR a b) := by
 unfold impl_JoinOf.f joinR
 have J : Ev (fun k => impl_JoinOf.j0 k a b true) (([] : List Int), false) := Ev.succ (by simp only [impl_JoinOf.j0, if_true]; exact Ev.now _)
 refine Ev.bind (areLists_ev a b ha hb) ?_
 by_cases ga : goodL a = true
 · by_cases gb : goodL b = true
   · simp only [ga, gb, if_true]
     refine Ev.bind (doFit_ev a b (good_sm ga) (good_sm gb)) ?_
     by_cases hf : fitB a b = true
     · simp only [hf, Bool.not_true, if_true]
       refine Ev.succ ?_
       simp only [impl_JoinOf.j0, zbk, if_false]
       have hla := (good_sm ga).1
       have hlb := (good_sm gb).1
       obtain ⟨r, e1, r0, r1, rx⟩ := slMax_good ga
       obtain ⟨s, e2, s0, s1, sx⟩ := slMax_good gb
       have hm : mx r s = max r s := by unfold mx; omega
       refine Ev.bind e1 (Ev.bind e2 ?_)
       rw [hm]
       have hL := joinL_max a b (max r s) (by omega) (by omega) hla hlb (fun x hx => by have := rx x hx; omega) (fun x hx => by have := sx x hx; omega)
       rw [← meetL_desc (conjL_desc a _ (by omega) (by omega)) (conjL_desc b _ (by omega) (by omega))] at hL
       rw [← hL]
       refine Ev.bind (implConj_ev a _ ha (by omega) (by omega)) (Ev.bind (implConj_ev b _ hb (by omega) (by omega)) (Ev.bind (implmeet_ev _ _ (conjL_bd a _ (by omega) hla (by omega)) (conjL_bd b _ (by omega) hlb (by omega)) (taca)) (Ev.bind (implConj_ev _ _ ?_ (by omega) (by omega)) (Ev.now _))))
       rw [meetL_length _ _ (taca), conjL_length]
       omega
     · have hf' : fitB a b = false := zbg.2 hf
       simp only [hf', Bool.not_false, zbk, if_false]
       exact J
   · simp only [ga, if_true, if_neg gb]
     exact J
 · simp only [if_neg ga, zbk, if_false]
   exact J
theorem joinR_len (a b : List Int) (ha : a.length ≤ 1048576) (hb : b.length ≤ 1048576) : (joinR a b).1.length ≤ 1048576 := by
 unfold joinR
 split
 · split
   · split
     · simp only [joinL, conjL_length]
       omega
     · simp
   · simp
 · simp
theorem good_el {a : List Int} (hg : goodL a = true) {n : Int} (hn : 60 ≤ n) : ∀ x ∈ a, 0 ≤ x ∧ x ≤ n := fun x hx => by
 have := ((goodL_iff a).1 hg).2.2 x hx
 omega
theorem conj_el (a : List Int) (n : Int) (h0 : 0 ≤ n) (hl : a.length ≤ 1000000) : ∀ x ∈ conjL a n, 0 ≤ x ∧ x ≤ a.length := fun x hx => by
 rw [conjL_eq a n h0 hl] at hx
 unfold mapR at hx
 obtain ⟨j, _, rfl⟩ := List.mem_map.1 hx
 have := gtN_le a j
 omega
theorem meet_el (a b : List Int) (n : Int) (hl : a.length = b.length) (ha : ∀ x ∈ a, 0 ≤ x ∧ x ≤ n) (hb : ∀ x ∈ b, 0 ≤ x ∧ x ≤ n) : ∀ x ∈ meetL a b, 0 ≤ x ∧ x ≤ n := fun x hx => by
 obtain ⟨i, h0, h1, rfl⟩ := mem_rd hx
 have hm := meetL_length a b hl
 obtain ⟨k, rfl⟩ := Int.eq_ofNat_of_zero_le h0
 have hk : k < a.length := by omega
 have e0 : rd (meetL a b) (k : Int) ≤ rd (meetL a b) ((0 : Nat) : Int) := desc_rd (meetL_ranked a b hl) (Nat.zero_le _) (by omega)
 have a1 := ha _ (descL_mem.1 (rd_mem (l := descL a) (i := (k : Int)) (by omega) (taau)))
 have b1 := hb _ (descL_mem.1 (rd_mem (l := descL b) (i := (k : Int)) (by omega) (taau)))
 have a0 := ha _ (descL_mem.1 (rd_mem (l := descL a) (i := ((0 : Nat) : Int)) (by omega) (taau)))
 have b0 := hb _ (descL_mem.1 (rd_mem (l := descL b) (i := ((0 : Nat) : Int)) (by omega) (taau)))
 rw [rd_pre (taau)] at a1 b1 a0 b0
 rw [rd_pre (by omega), rd_pre (by omega), meetL_pre a b hl _ (by omega), meetL_pre a b hl _ (by omega), meetL_pre a b hl _ (by omega), meetL_pre a b hl _ (by omega)] at e0
 have e : rd (meetL a b) (k : Int) = min (pre (descL a) (k + 1)) (pre (descL b) (k + 1)) - min (pre (descL a) k) (pre (descL b) k) := by
  rw [rd_pre (by omega), meetL_pre a b hl _ (by omega), meetL_pre a b hl _ (by omega)]
 show 0 ≤ rd (meetL a b) (k : Int) ∧ rd (meetL a b) (k : Int) ≤ n
 rw [e]
 rw [pre_zero, pre_zero] at *
 omega
theorem join_conj (a b : List Int) (ga : goodL a = true) (gb : goodL b = true) (hf : fitB a b = true) : joinL a b = conjL (meetL (conjL a 60) (conjL b 60)) (a.length : Int) ∧ conjL (joinL a b) 60 = meetL (conjL a 60) (conjL b 60) ∧ fitB (conjL a 60) (conjL b 60) = true := by
 obtain ⟨hl, hs⟩ := (fitB_iff a b).1 hf
 have sa := (goodL_iff a).1 ga
 have sb := (goodL_iff b).1 gb
 have e1 : joinL a b = conjL (meetL (conjL a 60) (conjL b 60)) (a.length : Int) := by
  unfold joinL
  rw [meetL_desc (conjL_desc a 60 (by omega) (by omega)) (conjL_desc b 60 (by omega) (by omega))]
 have hcl : (conjL a 60).length = (conjL b 60).length := by rw [conjL_length, conjL_length]
 have hml : (meetL (conjL a 60) (conjL b 60)).length = 60 := by rw [meetL_length _ _ hcl, conjL_length]; rfl
 refine ⟨e1, ?_, (fitB_iff _ _).2 ⟨hcl, by rw [conj_sum a 60 (by omega) (by omega) (good_el ga (by omega)), conj_sum b 60 (by omega) (by omega) (good_el gb (by omega)), hs]⟩⟩
 have h := conj_conj (meetL (conjL a 60) (conjL b 60)) (a.length : Int) (by omega) (by omega) (by omega) (meet_el _ _ _ hcl (conj_el a 60 (by omega) (by omega)) (fun x hx => by have := conj_el b 60 (by omega) (by omega) x hx; omega))
 rw [hml] at h
 rw [e1]
 rw [descL_of_desc (meetL_ranked _ _ hcl)] at h
 exact h
theorem joinL_length (a b : List Int) : (joinL a b).length = a.length := by
 unfold joinL
 rw [conjL_length]
 omega
theorem joinL_el (a b : List Int) (ga : goodL a = true) (gb : goodL b = true) (hf : fitB a b = true) : ∀ x ∈ joinL a b, 0 ≤ x ∧ x ≤ 60 := fun x hx => by
 have sa := (goodL_iff a).1 ga
 have sb := (goodL_iff b).1 gb
 have hcl : (conjL a 60).length = (conjL b 60).length := by rw [conjL_length, conjL_length]
 have hml : (meetL (conjL a 60) (conjL b 60)).length = 60 := by rw [meetL_length _ _ hcl, conjL_length]; rfl
 rw [(join_conj a b ga gb hf).1] at hx
 have := conj_el _ _ (by omega) (by omega) x hx
 omega
theorem joinL_good (a b : List Int) (ga : goodL a = true) (gb : goodL b = true) (hf : fitB a b = true) : goodL (joinL a b) = true := by
 have sa := (goodL_iff a).1 ga
 exact (goodL_iff _).2 ⟨by rw [joinL_length]; omega, by rw [joinL_length]; omega, joinL_el a b ga gb hf⟩
theorem joinL_desc (a b : List Int) (ga : goodL a = true) (gb : goodL b = true) (hf : fitB a b = true) : Desc (joinL a b) := by
 have sa := (goodL_iff a).1 ga
 have hcl : (conjL a 60).length = (conjL b 60).length := by rw [conjL_length, conjL_length]
 have hml : (meetL (conjL a 60) (conjL b 60)).length = 60 := by rw [meetL_length _ _ hcl, conjL_length]; rfl
 rw [(join_conj a b ga gb hf).1]
 exact conjL_desc _ _ (by omega) (by omega)
theorem join_bd (a b c : List Int) (ga : goodL a = true) (gb : goodL b = true) (hf : fitB a b = true) (hc : ∀ x ∈ c, 0 ≤ x ∧ x ≤ 60) (hcl : c.length = a.length) : majB (joinL a b) c = true ↔ majB a c = true ∧ majB b c = true := by
 obtain ⟨hl, hs⟩ := (fitB_iff a b).1 hf
 have sa := (goodL_iff a).1 ga
 have sb := (goodL_iff b).1 gb
 obtain ⟨_, e2, e3⟩ := join_conj a b ga gb hf
 rw [conj_turn (joinL a b) c 60 (by omega) (by rw [joinL_length, hcl]) (by rw [joinL_length]; omega) (joinL_el a b ga gb hf) hc, conj_turn a c 60 (by omega) hcl.symm (by omega) (good_el ga (by omega)) hc, conj_turn b c 60 (by omega) (by omega) (by omega) (good_el gb (by omega)) hc, e2]
 exact meet_bd _ _ _ e3
theorem join_ge (a b : List Int) (ga : goodL a = true) (gb : goodL b = true) (hf : fitB a b = true) : majB a (joinL a b) = true ∧ majB b (joinL a b) = true := (join_bd a b (joinL a b) ga gb hf (joinL_el a b ga gb hf) (joinL_length a b)).1 (maj_refl _)
theorem meetL_good (a b : List Int) (ga : goodL a = true) (gb : goodL b = true) (hf : fitB a b = true) : goodL (meetL a b) = true := by
 obtain ⟨hl, hs⟩ := (fitB_iff a b).1 hf
 have sa := (goodL_iff a).1 ga
 exact (goodL_iff _).2 ⟨tacy, tacy, meet_el a b 60 hl (good_el ga (by omega)) (good_el gb (by omega))⟩
theorem meet_absorb (a b : List Int) (h : majB a b = true) : meetL a b = descL a := by
 have h2 := (maj_ex a b).1 h
 have hf : fitB a b = true := (fitB_iff a b).2 ⟨h2.1, h2.2.1⟩
 have e1 : majB a (meetL a b) = true := (meet_bd a b a hf).2 ⟨maj_refl a, h⟩
 have e2 : majB (meetL a b) a = true := ((meet_bd a b (meetL a b) hf).1 (maj_refl _)).1
 have e := maj_antisymm e1 e2
 rw [descL_of_desc (meetL_ranked a b h2.1)] at e
 exact e.symm
theorem join_absorb (a b : List Int) (ga : goodL a = true) (gb : goodL b = true) (h : majB b a = true) : joinL a b = descL a := by
 have h2 := (maj_ex b a).1 h
 have hf : fitB a b = true := (fitB_iff a b).2 ⟨h2.1.symm, h2.2.1.symm⟩
 have e1 := (join_ge a b ga gb hf).1
 have e2 := (join_bd a b a ga gb hf (good_el ga (by omega)) rfl).2 ⟨maj_refl a, h⟩
 have e := maj_antisymm e1 e2
 rw [descL_of_desc (joinL_desc a b ga gb hf)] at e
 exact e.symm
def betB (a b : List Int) : Bool := if goodL a = true then (if goodL b = true then majB a b else false) else false
theorem Ev.ite' {α : Type} {c : Prop} [Decidable c] {g f : Nat → Option α} {r : α} (h : c → Ev g r) (h' : ¬ c → Ev f r) : Ev (fun k => if c then g k else f k) r := by
 by_cases hc : c
 · simp only [hc, if_true]
   exact h hc
 · simp only [hc, if_false]
   exact h' hc
theorem big_eq (a b : List Int) (ha : a.length ≤ 140737488355328) : laws_big.f a b = some (decide ((a.length : Int) > 1048576 ∨ (b.length : Int) > 1048576 - (a.length : Int))) := by
 unfold laws_big.f
 rw [w64 (x := 1048576 - (a.length : Int)) (by omega) (by omega)]
 by_cases h : (a.length : Int) > 1048576
 · simp [h]
 · simp only [if_neg h]
   congr 1
   by_cases h2 : (b.length : Int) > 1048576 - (a.length : Int)
   · rw [zba h2, zba (.inr h2)]
   · rw [zbh h2, zbh (by omega)]
theorem bytes_of {l : List Int} (h : l.length ≤ 1048576) (hx : ∀ x ∈ l, (Lit.int .u8 x).wf = true) : Bytes l := by
 refine ⟨h, fun x hm => ?_⟩
 have := hx x hm
 simp only [Lit.wf, Bool.and_eq_true, decide_eq_true_eq] at this
 exact ⟨this.1, this.2⟩
theorem pSame_l (xs ys : List Int) (hx : xs.length ≤ 9223372036854775807) (hl : xs.length = ys.length) : ∀ (n i : Nat), i + n = xs.length → Ev (fun k => laws_pSame.l0 k xs ys (xs.length : Int) (i : Int)) (decide (xs.drop i = ys.drop i))
 | 0, i, h => by
  refine Ev.succ ?_
  simp only [laws_pSame.l0, if_neg (show ¬ (i : Int) < (xs.length : Int) by omega)]
  rw [List.drop_eq_nil_of_le (by omega), List.drop_eq_nil_of_le (by omega), zba rfl]
  exact Ev.now _
 | n + 1, i, h => by
  have hi : i < xs.length := by omega
  have hj : i < ys.length := by omega
  refine Ev.succ ?_
  simp only [laws_pSame.l0, if_pos (show (i : Int) < (xs.length : Int) by omega), if_pos (show (0 : Int) ≤ (i : Int) by omega), if_pos (show (i : Int) < (ys.length : Int) by omega), rdn hi, rdn hj, wsucc hi hx]
  rw [List.drop_eq_getElem_cons hi, List.drop_eq_getElem_cons hj]
  by_cases c : xs[i] = ys[i]
  · simp only [if_pos c, c, List.cons.injEq, true_and]
    exact pSame_l xs ys hx hl n (i + 1) (by omega)
  · simp only [if_neg c, List.cons.injEq, c, false_and, decide_false]
    exact Ev.now _
theorem pSame_ev (xs ys : List Int) (hx : xs.length ≤ 9223372036854775807) : Ev (fun k => laws_pSame.f k xs ys) (decide (xs = ys)) := by
 unfold laws_pSame.f
 by_cases h : (xs.length : Int) = (ys.length : Int)
 · simp only [if_pos h]
   exact pSame_l xs ys hx (by omega) xs.length 0 (by omega)
 · simp only [if_neg h]
   rw [zbh (fun e => h (by rw [e]))]
   exact Ev.now _
theorem pSame_self (xs : List Int) (hx : xs.length ≤ 9223372036854775807) : Ev (fun k => laws_pSame.f k xs xs) true := by
 have h := pSame_ev xs xs hx
 rw [zba rfl] at h
 exact h
theorem pSum_ev (l : List Int) (n m : Int) (h : Bd n m l) (hn : n ≤ 1000) (hm : m ≤ 100000) (hm0 : 0 ≤ m) : Ev (fun k => laws_pSum.f k l) l.sum := by
 unfold laws_pSum.f
 have hl := h.len
 have h := ev_fold (xs := l) (g := fun k s i => laws_pSum.l0 k s l (l.length : Int) i) (fun s x => s + x) (fun s i => -(i : Int) ≤ s ∧ s ≤ 100000 * (i : Int)) id
  (fun s _ => Ev.succ (by simp only [laws_pSum.l0, if_neg (Int.lt_irrefl _)]; exact Ev.now _))
  (fun i hi s r hs _ hr => Ev.succ (by
   have h1 := h.low _ (List.getElem_mem hi)
   have h2 := h.high _ (List.getElem_mem hi)
   simp only [laws_pSum.l0, if_pos (show (i : Int) < (l.length : Int) by omega), if_pos (show (0 : Int) ≤ (i : Int) by omega), rdn hi, wsucc hi (by omega), w64 (x := s + l[i]) (by omega) (by omega)]
   exact hr))
  (fun i hi s hs => by
   have h1 := h.low _ (List.getElem_mem hi)
   have h2 := h.high _ (List.getElem_mem hi)
   omega) l.length 0 0 (by omega) (by omega)
 rw [List.drop_zero, foldl_add, Int.zero_add] at h
 exact h
theorem good_Bd {l : List Int} (h : goodL l = true) : Bd 8 60 l := by
 have g := (goodL_iff l).1 h
 exact ⟨by omega, fun x hx => by have := g.2.2 x hx; omega, fun x hx => (g.2.2 x hx).2⟩
theorem pBelow_ev (a b : List Int) (ha : a.length ≤ 1048576) (hb : b.length ≤ 1048576) : Ev (fun k => laws_pBelow.f k a b) (betB a b) := by
 unfold laws_pBelow.f betB
 refine Ev.bind (implIsMajorized_ev a b ha hb) ?_
 unfold majR
 by_cases ga : goodL a = true
 · by_cases gb : goodL b = true
   · simp only [ga, gb, if_true]
     exact Ev.now _
   · simp only [ga, if_true, if_neg gb, zbk, if_false]
     exact Ev.now _
 · simp only [if_neg ga, zbk, if_false]
   exact Ev.now _
theorem pBelow_good {a b : List Int} (ga : goodL a = true) (gb : goodL b = true) : Ev (fun k => laws_pBelow.f k a b) (majB a b) := by
 have g1 := (goodL_iff a).1 ga
 have g2 := (goodL_iff b).1 gb
 have h := pBelow_ev a b (by omega) (by omega)
 unfold betB at h
 rw [if_pos ga, if_pos gb] at h
 exact h
theorem big_cut (l0 l1 : List Int) (g0 : l0.length * 1 ≤ 140737488351232) (x0 : ∀ x ∈ l0, (Lit.int .u8 x).wf = true) (x1 : ∀ x ∈ l1, (Lit.int .u8 x).wf = true) : laws_big.f l0 l1 = some true ∨ laws_big.f l0 l1 = some false ∧ Bytes l0 ∧ Bytes l1 := by
 rw [big_eq l0 l1 (by omega)]
 by_cases hb : (l0.length : Int) > 1048576 ∨ (l1.length : Int) > 1048576 - (l0.length : Int)
 · rw [zba hb]
   exact .inl rfl
 · rw [zbh hb]
   exact .inr ⟨rfl, bytes_of (by omega) x0, bytes_of (by omega) x1⟩






theorem rd_L1n {xs : List (List Int)} {i : Nat} (h : i < xs.length) : rd_L1 xs (i : Int) = xs[i] := by
 unfold rd_L1
 rw [Int.toNat_natCast, List.getD_eq_getElem?_getD, List.getElem?_eq_getElem h]
 rfl
end Go.Proofs.Ytdkimdlbjeobiaa.A
/- The law FnMeetsAndJoins holds of the printed functions, for every argument: numbers and lists alone. -/
namespace Go.Proofs.Ytdkimdlbjeobiaa.Pure
open Go.RowKit Go.Proofs.Ytdkimdlbjeobiaa.A Go.Proofs.YtdkimdlbjeobiaaW.PrintWords Go.Proofs.YtdkimdlbjeobiaaW.PrintLast
set_option linter.unusedVariables false
set_option linter.unusedSimpArgs false
theorem mj_l0 (x y : List Int) (gx : goodL x = true) (gy : goodL y = true) (hf : fitB x y = true) (L : List (List Int)) (hb : L.length ≤ 150) (hL : ∀ c ∈ L, goodL c = true ∧ Desc c ∧ c.length = x.length ∧ majB c (joinL x y) = true) : ∀ (d i : Nat), i + d = L.length → Ev (fun k => laws_FnMeetsAndJoins.l0 k x y (joinL x y) (meetL x y) L (L.length : Int) (i : Int)) true
 | 0, i, e => by
  refine Ev.succ ?_
  simp only [laws_FnMeetsAndJoins.l0, if_neg (show ¬ (i : Int) < (L.length : Int) by omega)]
  exact Ev.now _
 | d + 1, i, e => by
  have hi : i < L.length := by omega
  have ih := mj_l0 x y gx gy hf L hb hL d (i + 1) (by omega)
  obtain ⟨gc, dc, lc, mc⟩ := hL _ (List.getElem_mem hi)
  have gm := meetL_good x y gx gy hf
  have hm := meet_bd x y L[i] hf
  have hj := join_bd x y L[i] gx gy hf (good_el gc (by omega)) lc
  have p1 := pBelow_good gc gx
  have p2 := pBelow_good gc gy
  have p3 := pBelow_good gc gm
  have p4 := pBelow_good gx gc
  have p5 := pBelow_good gy gc
  have p6 := pSame_ev L[i] (joinL x y) (by have := (goodL_iff _).1 gc; omega)
  refine Ev.succ ?_
  simp only [laws_FnMeetsAndJoins.l0, if_pos (show (i : Int) < (L.length : Int) by omega), if_pos (Int.natCast_nonneg i), rd_L1n hi, wsucc hi (by omega)]
  have rest : Ev (fun k => (laws_pBelow.f k x L[i]).bind fun t => if t = true then ((laws_pBelow.f k y L[i]).bind fun t2 => if t2 = true then ((laws_pSame.f k L[i] (joinL x y)).bind fun t3 => if t3 = true then laws_FnMeetsAndJoins.l0 k x y (joinL x y) (meetL x y) L (L.length : Int) ((i + 1 : Nat) : Int) else some false) else laws_FnMeetsAndJoins.l0 k x y (joinL x y) (meetL x y) L (L.length : Int) ((i + 1 : Nat) : Int)) else laws_FnMeetsAndJoins.l0 k x y (joinL x y) (meetL x y) L (L.length : Int) ((i + 1 : Nat) : Int)) true := by
   refine Ev.bind p4 (Ev.ite' (fun c1 => ?_) (fun _ => ih))
   refine Ev.bind p5 (Ev.ite' (fun c2 => ?_) (fun _ => ih))
   have e1 := maj_antisymm (hj.2 ⟨c1, c2⟩) mc
   rw [descL_of_desc (joinL_desc x y gx gy hf), descL_of_desc dc] at e1
   rw [zba e1.symm] at p6
   refine Ev.bind p6 ?_
   simp only [if_true]
   exact ih
  refine Ev.bind p1 (Ev.ite' (fun c1 => ?_) (fun _ => rest))
  refine Ev.bind p2 (Ev.ite' (fun c2 => ?_) (fun _ => rest))
  rw [hm.2 ⟨c1, c2⟩] at p3
  refine Ev.bind p3 ?_
  simp only [if_true]
  exact rest
theorem mj_j0 (x y : List Int) (gx : goodL x = true) (gy : goodL y = true) (hf : fitB x y = true) : Ev (fun k => laws_FnMeetsAndJoins.j0 k x y (joinL x y) true (meetL x y) false) true := by
 obtain ⟨hl, hs⟩ := (fitB_iff x y).1 hf
 have bx := (goodL_iff x).1 gx
 have gJ := joinL_good x y gx gy hf
 have gM := meetL_good x y gx gy hf
 obtain ⟨j1, j2⟩ := join_ge x y gx gy hf
 obtain ⟨m1, m2⟩ := (meet_bd x y (meetL x y) hf).1 (maj_refl _)
 have f1 : fitB x (joinL x y) = true := by
  have := (majB_iff _ _).1 j1
  exact (fitB_iff _ _).2 ⟨this.1, this.2.1⟩
 have f2 : fitB x (meetL x y) = true := by
  have := (majB_iff _ _).1 m1
  exact (fitB_iff _ _).2 ⟨this.1.symm, this.2.1.symm⟩
 have a1 := meet_absorb x (joinL x y) j1
 have a2 := join_absorb x (meetL x y) gx gM m1
 have hlJ := joinL_length x y
 have hlM := meetL_length x y hl
 refine Ev.succ ?_
 simp only [laws_FnMeetsAndJoins.j0, zbk, if_false, if_true]
 refine Ev.bind (implRankingOf_ev x (by omega)) (Ev.bind (implMeetOf_ev x (joinL x y) (by omega) (by omega)) (Ev.bind (implJoinOf_ev x (meetL x y) (by omega) (by omega)) ?_))
 unfold rankingR meetR joinR
 simp only [gx, gJ, gM, f1, f2, if_true, a1, a2]
 have q1 := pBelow_good gM gx
 have q2 := pBelow_good gM gy
 have q3 := pBelow_good gx gJ
 have q4 := pBelow_good gy gJ
 rw [m1] at q1
 rw [m2] at q2
 rw [j1] at q3
 rw [j2] at q4
 have hself := pSame_self (descL x) (by rw [descL_length]; omega)
 refine Ev.bind q1 ?_
 simp only [if_true]
 refine Ev.bind q2 ?_
 simp only [if_true]
 refine Ev.bind q3 ?_
 simp only [if_true]
 refine Ev.bind q4 ?_
 simp only [if_true]
 refine Ev.bind hself ?_
 simp only [if_true]
 refine Ev.bind hself ?_
 simp only [Bool.not_true]
 refine Ev.succ ?_
 simp only [laws_FnMeetsAndJoins.j1, zbk, if_false]
 refine Ev.bind (implJoinOf_ev y x (by omega) (by omega)) ?_
 have f3 : fitB y x = true := (fitB_iff _ _).2 ⟨hl.symm, hs.symm⟩
 have sw : joinL y x = joinL x y := by
  obtain ⟨k1, k2⟩ := join_ge y x gy gx f3
  have hlJ2 := joinL_length y x
  have e1 := (join_bd x y (joinL y x) gx gy hf (joinL_el y x gy gx f3) (by omega)).2 ⟨k2, k1⟩
  have e2 := (join_bd y x (joinL x y) gy gx f3 (joinL_el x y gx gy hf) (by omega)).2 ⟨j2, j1⟩
  have e := maj_antisymm e2 e1
  rw [descL_of_desc (joinL_desc x y gx gy hf), descL_of_desc (joinL_desc y x gy gx f3)] at e
  exact e
 unfold joinR
 simp only [gx, gy, f3, if_true, sw]
 refine Ev.bind (pSame_self (joinL x y) (by omega)) ?_
 simp only [Bool.not_true]
 refine Ev.succ ?_
 simp only [laws_FnMeetsAndJoins.j2, zbk, if_false]
 refine Ev.bind (implBelowOf_ev (joinL x y) (by omega)) ?_
 have hsum : (joinL x y).sum = x.sum := ((majB_iff _ _).1 j1).2.1.symm
 unfold belR
 simp only [gJ, if_true, hsum]
 by_cases h30 : x.sum ≤ 30
 · simp only [if_pos h30, if_true]
   refine Ev.ite' (fun _ => Ev.now _) (fun c => ?_)
   exact mj_l0 x y gx gy hf (undL (joinL x y)) (by omega) (fun c hc => by
    have hu := und_good gJ (by omega) hc
    exact ⟨hu.1, hu.2.2.1, by omega, ((und_mem gJ c).1 hc).2.2⟩) (undL (joinL x y)).length 0 (by omega)
 · simp only [if_neg h30, zbk, if_false]
   refine Ev.bind (pSum_ev x 8 60 (good_Bd gx) (by omega) (by omega) (by omega)) ?_
   rw [zba (show x.sum > 30 by omega)]
   exact Ev.now _
theorem FnMeetsAndJoins : laws_FnMeetsAndJoins.Pure := by
 intro l0 l1 _ g0 x0 _ g1 x1
 apply Ev.get
 unfold laws_FnMeetsAndJoins.f
 rcases big_cut l0 l1 g0 x0 x1 with hb | ⟨hb, b0, b1⟩
 · simp only [hb, zbb, if_true]
   exact Ev.now _
 · simp only [hb, zbb, zbk, if_false]
   obtain ⟨x, y, e, hx, hy⟩ := drawJoin_ev l0 b0
   have lx := hx.len
   have ly := hy.len
   have r1 := joinR_len x y (by omega) (by omega)
   have r2 := meetR_len x y (by omega) (by omega)
   refine Ev.bind e (Ev.bind (implJoinOf_ev x y (by omega) (by omega)) (Ev.bind (specJoinOf_ev x y (by omega) (by omega)) (Ev.bind (implMeetOf_ev x y (by omega) (by omega)) (Ev.bind (specMeetOf_ev x y (by omega) (by omega)) ?_))))
   simp only [bne_self_eq_false, zbk, if_false]
   refine Ev.bind (pSame_self _ (by omega)) ?_
   simp only [if_true]
   refine Ev.bind (pSame_self _ (by omega)) ?_
   simp only [if_true]
   have J : Ev (fun k => laws_FnMeetsAndJoins.j0 k x y [] false [] false) true := Ev.succ (by simp only [laws_FnMeetsAndJoins.j0, zbk, if_false]; exact Ev.now _)
   unfold joinR meetR
   by_cases gx : goodL x = true
   · by_cases gy : goodL y = true
     · by_cases hf : fitB x y = true
       · simp only [gx, gy, hf, if_true, bne_self_eq_false]
         exact mj_j0 x y gx gy hf
       · simp only [gx, gy, if_true, if_neg hf, bne_self_eq_false]
         exact J
     · simp only [gx, if_true, if_neg gy, bne_self_eq_false]
       exact J
   · simp only [if_neg gx, bne_self_eq_false]
     exact J
end Go.Proofs.Ytdkimdlbjeobiaa.Pure

