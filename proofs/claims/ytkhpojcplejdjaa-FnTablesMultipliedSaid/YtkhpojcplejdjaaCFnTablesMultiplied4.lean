/- What the law FnTablesMultiplied reaches, part 4: Lean functions with the same answers as the Go functions, the proofs that the Go code comes to these answers, and lemmas about them; no condition beyond those that each theorem names. -/
import Derived.Test.YtkhpojcplejdjaaCFnTablesMultipliedw1
import Derived.Test.YtkhpojcplejdjaaCFnTablesMultiplied1
import Derived.Test.YtkhpojcplejdjaaCFnTablesMultiplied2
import Derived.Test.YtkhpojcplejdjaaCFnTablesMultiplied3
namespace Go.Proofs.Ytkhpojcplejdjaa.A
open Go.RowKit Go.Proofs.YtkhpojcplejdjaaW.PrintWords Go.Proofs.YtkhpojcplejdjaaW.PrintLast Go.Proofs.YtkhpojcplejdjaaW.PrintMore
set_option linter.unusedVariables false
set_option linter.unusedSimpArgs false
/-! draws of tables -/
structure Sq (n : Nat) (T : List (List Int)) : Prop where
 len : T.length = n
 row : ∀ i, i < n → (rd_L1 T (i : Int)).length = n
theorem Sq.set {n : Nat} {T : List (List Int)} (h : Sq n T) {i : Nat} (hi : i < n) {r : List Int} (hr : r.length = n) : Sq n (T.set i r) := by
 refine ⟨by rw [List.length_set, h.len], fun j hj => ?_⟩
 have hl := h.len
 rw [rd_L1n (show j < (T.set i r).length by rw [List.length_set]; omega), List.getElem_set]
 by_cases e : i = j
 · rw [if_pos e]
   exact hr
 · rw [if_neg e, ← rd_L1n (show j < T.length by omega)]
   exact h.row j hj
theorem Sq.zero (n : Nat) : Sq n (tabG n fun _ _ => 0) := ⟨tabG_length _ _, fun i hi => tabG_rowlen _ hi⟩
theorem placing_dl (l : List Int) (hl : Bytes l) (n : Nat) (hn : n ≤ 10) : ∀ (d i : Nat) (acc : List Int) (a s : Int), i + d = n → acc.length = i → 0 ≤ a → a ≤ 700000000 + 10 * (i : Int) → ∃ r a' s', Ev (fun k => spec_l1Cur_placing.l0 k (n : Int) acc (i : Int) l a s) (r, a', s') ∧ r.length = n ∧ a ≤ a' ∧ a' ≤ a + 2 * (d : Int) + 6
 | 0, i, acc, a, s, hi, hacc, h0, h1 => by
  have e : acc.length = n := by omega
  have J : ∀ a s, Ev (fun k => spec_l1Cur_placing.j1 k (n : Int) acc false l a s) (acc, a, s) := fun a s => Ev.succ (by simp only [spec_l1Cur_placing.j1, Bool.false_eq_true, if_false]; exact Ev.now _)
  by_cases c : (acc.length : Int) > 0
  · obtain ⟨t, a1, s1, e1, b0, b1⟩ := one_ev l hl a s 25 h0 (by omega)
    cases t with
    | false =>
     refine ⟨acc, a1, s1, Ev.succ ?_, e, by omega, by omega⟩
     simp only [spec_l1Cur_placing.l0, if_neg (show ¬ (i : Int) < (n : Int) by omega), if_pos c, e1, Option.bind_some]
     exact J _ _
    | true =>
     obtain ⟨x, a2, s2, e2, x0, x1, c0, c1⟩ := pick_ev l hl a1 s1 (acc.length : Int) (by omega) (by omega)
     obtain ⟨y, a3, s3, e3, y0, d0, d1⟩ := among_ev l hl a2 s2 ([(-1), 0, (n : Int), 4611686018427387904] : List Int) (by simp) (by omega) (by omega)
     refine ⟨acc.set x.toNat y, a3, s3, Ev.succ ?_, by rw [List.length_set]; exact e, by omega, by omega⟩
     simp only [spec_l1Cur_placing.l0, if_neg (show ¬ (i : Int) < (n : Int) by omega), if_pos c, e1, Option.bind_some]
     refine Ev.succ ?_
     simp only [spec_l1Cur_placing.j1, if_true, e2, e3, Option.bind_some, if_pos x0, if_pos (show x < (acc.length : Int) by omega)]
     exact Ev.now _
  · refine ⟨acc, a, s, Ev.succ ?_, e, by omega, by omega⟩
    simp only [spec_l1Cur_placing.l0, if_neg (show ¬ (i : Int) < (n : Int) by omega), if_neg c]
    exact J _ _
 | d + 1, i, acc, a, s, hi, hacc, h0, h1 => by
  obtain ⟨x, a1, s1, e1, x0, x1, b0, b1⟩ := pick_ev l hl a s (wrap64 ((i : Int) + 1)) h0 (by omega)
  have hw : wrap64 ((i : Int) + 1) = ((i + 1 : Nat) : Int) := by rw [w64 (by omega) (by omega)]; omega
  rw [hw] at e1 x1
  have hx : x ≤ (acc.length : Int) := by omega
  have hlt : (acc.take x.toNat).length = x.toNat := by rw [List.length_take]; omega
  have hld : (acc.drop x.toNat).length = acc.length - x.toNat := List.length_drop
  obtain ⟨r, a', s', er, hr, q1, q2⟩ := placing_dl l hl n hn d (i + 1) ((([] : List Int) ++ acc.take x.toNat ++ [(i : Int)]) ++ acc.drop x.toNat) a1 s1 (by omega) (by simp only [List.nil_append, List.length_append, List.length_singleton, hlt, hld]; omega) (by omega) (by omega)
  refine ⟨r, a', s', Ev.succ ?_, hr, by omega, by omega⟩
  simp only [spec_l1Cur_placing.l0, if_pos (show (i : Int) < (n : Int) by omega), hw, e1, Option.bind_some, if_pos x0, if_pos hx, List.length_nil, List.length_append, List.nil_append, List.length_singleton, hlt, hld, if_pos (show 0 + x.toNat < 17592186044416 by omega), if_pos (show x.toNat < 17592186044416 by omega), if_pos (show 0 + x.toNat + 1 + (acc.length - x.toNat) < 17592186044416 by omega), if_pos (show x.toNat + 1 + (acc.length - x.toNat) < 17592186044416 by omega)]
  simp only [List.nil_append] at er
  exact er
theorem placing_dev (l : List Int) (hl : Bytes l) (n : Nat) (hn : n ≤ 10) (a s : Int) (h0 : 0 ≤ a) (h1 : a ≤ 700000000) : ∃ r a' s', Ev (fun k => spec_l1Cur_placing.f k l a s (n : Int)) (r, a', s') ∧ r.length = n ∧ a ≤ a' ∧ a' ≤ a + 30 := by
 obtain ⟨r, a', s', e, h, q1, q2⟩ := placing_dl l hl n hn n 0 [] a s (by omega) rfl h0 (by omega)
 exact ⟨r, a', s', e, h, q1, by omega⟩
theorem equal_dl1 (l : List Int) (n : Nat) (hn : n ≤ 10) (p : List Int) (hp : p.length = n) (hb : ∀ x ∈ p, 0 ≤ x ∧ x < (n : Int)) (x6 x8 a s : Int) (Q : List (List Int) × Int × Int → Prop) (hr : ∀ T, Sq n T → ∃ r, Ev (fun k => spec_l1Cur_equal.l0 k (n : Int) T (wrap64 (x6 - 1)) l a s) r ∧ Q r) : ∀ (d i : Nat) (T : List (List Int)), i + d = n → Sq n T → ∃ r, Ev (fun k => spec_l1Cur_equal.l1 k (n : Int) T x6 x8 p (n : Int) (i : Int) l a s) r ∧ Q r
 | 0, i, T, hi, hT => by
  obtain ⟨r, e, q⟩ := hr T hT
  refine ⟨r, Ev.succ ?_, q⟩
  simp only [spec_l1Cur_equal.l1, if_neg (show ¬ (i : Int) < (n : Int) by omega)]
  exact e
 | d + 1, i, T, hi, hT => by
  have hip : i < p.length := by omega
  have hl := hT.len
  have hrow := hT.row i (by omega)
  have hx := hb _ (List.getElem_mem hip)
  obtain ⟨r, e, q⟩ := equal_dl1 l n hn p hp hb x6 x8 a s Q hr d (i + 1) (T.set i ((rd_L1 T (i : Int)).set (p[i]).toNat (wrap64 (rd (rd_L1 T (i : Int)) p[i] + x8)))) (by omega) (hT.set (by omega) (by rw [List.length_set, hrow]))
  refine ⟨r, Ev.succ ?_, q⟩
  simp only [spec_l1Cur_equal.l1, if_pos (show (i : Int) < (n : Int) by omega), if_pos (Int.natCast_nonneg i), if_pos (show (i : Int) < (p.length : Int) by omega), if_pos (show (i : Int) < (T.length : Int) by omega), rdn hip, if_pos hx.1, if_pos (show p[i] < ((rd_L1 T (i : Int)).length : Int) by omega), Int.toNat_natCast, wsucc (show i < n by omega) (by omega)]
  exact e
theorem equal_dl (l : List Int) (hl : Bytes l) (n : Nat) (hn : n ≤ 10) : ∀ (c : Nat) (T : List (List Int)) (a s : Int), (c : Int) ≤ 5 → Sq n T → 0 ≤ a → a ≤ 600000000 + 40 * (5 - (c : Int)) → ∃ r, Ev (fun k => spec_l1Cur_equal.l0 k (n : Int) T (c : Int) l a s) r ∧ (Sq n r.1 ∧ a ≤ r.2.1 ∧ r.2.1 ≤ a + 40 * (c : Int))
 | 0, T, a, s, hc, hT, h0, h1 => by
  refine ⟨(T, a, s), Ev.succ ?_, hT, Int.le_refl _, by simp⟩
  simp only [spec_l1Cur_equal.l0, if_neg (show ¬ ((0 : Nat) : Int) > 0 by omega)]
  exact Ev.now _
 | c + 1, T, a, s, hc, hT, h0, h1 => by
  obtain ⟨p, a1, s1, e1, hp, b0, b1⟩ := placing_dev l hl n hn a s h0 (by omega)
  have hw : wrap64 (((c + 1 : Nat) : Int) - 1) = (c : Int) := by rw [w64 (by omega) (by omega)]; omega
  by_cases g : placeB p = true
  · obtain ⟨x, a2, s2, e2, x0, x1, c0, c1⟩ := pick_ev l hl a1 s1 3 (by omega) (by omega)
    have hb := (placeB_len g).2.2.2
    rw [hp] at hb
    obtain ⟨r, er, q⟩ := equal_dl1 l n hn p hp hb ((c + 1 : Nat) : Int) (wrap64 (1 + x)) a2 s2 (fun r => Sq n r.1 ∧ a ≤ r.2.1 ∧ r.2.1 ≤ a + 40 * ((c + 1 : Nat) : Int)) (fun T hT => by
     obtain ⟨r, er, q1, q2, q3⟩ := equal_dl l hl n hn c T a2 s2 (by omega) hT (by omega) (by omega)
     rw [hw]
     exact ⟨r, er, q1, by omega, by omega⟩) n 0 T (by omega) hT
    refine ⟨r, Ev.succ ?_, q⟩
    simp only [spec_l1Cur_equal.l0, if_pos (show ((c + 1 : Nat) : Int) > 0 by omega)]
    refine Ev.bind e1 (Ev.bind (doPlacing_ev p) ?_)
    simp only [g, if_true, e2, Option.bind_some, hp]
    exact er
  · obtain ⟨r, er, q1, q2, q3⟩ := equal_dl l hl n hn c T a1 s1 (by omega) hT (by omega) (by omega)
    refine ⟨r, Ev.succ ?_, q1, by omega, by omega⟩
    simp only [spec_l1Cur_equal.l0, if_pos (show ((c + 1 : Nat) : Int) > 0 by omega)]
    refine Ev.bind e1 (Ev.bind (doPlacing_ev p) ?_)
    simp only [if_neg g, hw]
    exact er
theorem equal_dev (l : List Int) (hl : Bytes l) (n : Nat) (hn : n ≤ 10) (a s : Int) (h0 : 0 ≤ a) (h1 : a ≤ 600000000) : ∃ T a' s', Ev (fun k => spec_l1Cur_equal.f k l a s (n : Int)) (T, a', s') ∧ Sq n T ∧ a ≤ a' ∧ a' ≤ a + 300 := by
 obtain ⟨x, a1, s1, e1, x0, x1, b0, b1⟩ := pick_ev l hl a s 5 h0 (by omega)
 obtain ⟨c, rfl⟩ : ∃ c : Nat, x = (c : Int) := ⟨x.toNat, by omega⟩
 have hc : (c : Int) ≤ 5 := by omega
 obtain ⟨r, er, q1, q2, q3⟩ := equal_dl l hl n hn c (tabG n fun _ _ => 0) a1 s1 hc (Sq.zero n) (by omega) (by omega)
 refine ⟨r.1, r.2.1, r.2.2, ?_, q1, by omega, by omega⟩
 unfold spec_l1Cur_equal.f
 refine Ev.bind (doEmpty_ev n (by omega)) ?_
 simp only [e1, Option.bind_some]
 exact er
/-- A drawn table: few short rows. -/
def Few (T : List (List Int)) : Prop := T.length ≤ 11 ∧ ∀ x ∈ T, x.length ≤ 10
theorem Sq.few {n : Nat} {T : List (List Int)} (h : Sq n T) (hn : n ≤ 10) : Few T := by
 refine ⟨by rw [h.len]; omega, fun x hx => ?_⟩
 obtain ⟨i, hi, rfl⟩ := List.mem_iff_getElem.1 hx
 have := h.row i (by rw [← h.len]; exact hi)
 rw [rd_L1n hi] at this
 omega
theorem Few.tot {T : List (List Int)} (h : Few T) : T.length ≤ 1048576 ∧ totSS T ≤ 1048576 := by
 have := tot_le h.2
 have h1 := h.1
 have h2 : 10 * T.length ≤ 10 * 11 := Nat.mul_le_mul_left _ h1
 omega
theorem few_set {T : List (List Int)} (h : Few T) (i : Nat) {r : List Int} (hr : r.length ≤ 10) : Few (T.set i r) := by
 refine ⟨by rw [List.length_set]; exact h.1, fun x hx => ?_⟩
 rcases List.mem_or_eq_of_mem_set hx with k | k
 · exact h.2 x k
 · rw [k]
   exact hr
theorem squareD_j2 (l : List Int) (hl : Bytes l) (n : Nat) (h1n : 1 ≤ n) (hn : n ≤ 10) (T : List (List Int)) (hT : Sq n T) (a s : Int) (h0 : 0 ≤ a) (h1 : a ≤ 800000000) : ∃ r, Ev (fun k => spec_l1Cur_square.j2 k (n : Int) T l a s) r ∧ (Few r.1 ∧ a ≤ r.2.1 ∧ r.2.1 ≤ a + 20) := by
 have hlen := hT.len
 obtain ⟨x, a1, s1, e1, x0, x1, b0, b1⟩ := pick_ev l hl a s 16 h0 (by omega)
 by_cases c0 : x = 0
 · obtain ⟨i, a2, s2, e2, i0, i1, p0, p1⟩ := pick_ev l hl a1 s1 (n : Int) (by omega) (by omega)
   obtain ⟨j, a3, s3, e3, j0, j1, q0, q1⟩ := pick_ev l hl a2 s2 (n : Int) (by omega) (by omega)
   obtain ⟨v, a4, s4, e4, v0, r0, r1⟩ := among_ev l hl a3 s3 ([(-1), 0, 1000000, 1000001, 4611686018427387904] : List Int) (by decide) (by omega) (by omega)
   obtain ⟨i', rfl⟩ : ∃ i' : Nat, i = (i' : Int) := ⟨i.toNat, by omega⟩
   have hi : i' < n := by omega
   have hrow := hT.row i' hi
   refine ⟨(T.set ((i' : Int)).toNat ((rd_L1 T ((i' : Int))).set j.toNat v), a4, s4), Ev.succ ?_, few_set (hT.few hn) _ (by rw [List.length_set, hrow]; exact hn), by show a ≤ a4; omega, by show a4 ≤ a + 20; omega⟩
   simp only [spec_l1Cur_square.j2, e1, Option.bind_some, if_pos c0, e2, e3, e4, if_pos i0, if_pos (show (i' : Int) < (T.length : Int) by omega), if_pos j0, if_pos (show j < ((rd_L1 T ((i' : Int))).length : Int) by rw [hrow]; omega)]
   exact Ev.now _
 · by_cases c1 : x = 1
   · refine ⟨(T ++ [List.replicate (n : Int).toNat 0], a1, s1), Ev.succ ?_, ⟨by rw [List.length_append, List.length_singleton]; omega, fun y hy => ?_⟩, by show a ≤ a1; omega, by show a1 ≤ a + 20; omega⟩
     · simp only [spec_l1Cur_square.j2, e1, Option.bind_some, if_neg c0, if_pos c1, if_pos (Int.natCast_nonneg n), if_pos (show (n : Int).toNat ≤ 35184372088832 by omega), if_pos (show T.length < 5864062014805 by omega)]
       exact Ev.now _
     · rcases List.mem_append.1 hy with k | k
       · exact (hT.few hn).2 y k
       · rw [List.mem_singleton.1 k, List.length_replicate]
         omega
   · by_cases c2 : x = 2
     · have hrow := hT.row 0 (by omega)
       have e0 : rd_L1 T 0 = rd_L1 T ((0 : Nat) : Int) := rfl
       refine ⟨(T.set 0 ((rd_L1 T 0).drop 1), a1, s1), Ev.succ ?_, few_set (hT.few hn) _ (by rw [List.length_drop, e0, hrow]; omega), by show a ≤ a1; omega, by show a1 ≤ a + 20; omega⟩
       simp only [spec_l1Cur_square.j2, e1, Option.bind_some, if_neg c0, if_neg c1, if_pos c2, if_pos (show 0 < (T.length : Int) by omega), if_pos (show 1 ≤ ((rd_L1 T 0).length : Int) by rw [e0, hrow]; omega)]
       exact Ev.now _
     · by_cases c3 : x = 3
       · refine ⟨([], a1, s1), Ev.succ ?_, ⟨by simp, by simp⟩, by show a ≤ a1; omega, by show a1 ≤ a + 20; omega⟩
         simp only [spec_l1Cur_square.j2, e1, Option.bind_some, if_neg c0, if_neg c1, if_neg c2, if_pos c3]
         exact Ev.now _
       · refine ⟨(T, a1, s1), Ev.succ ?_, hT.few hn, by show a ≤ a1; omega, by show a1 ≤ a + 20; omega⟩
         simp only [spec_l1Cur_square.j2, e1, Option.bind_some, if_neg c0, if_neg c1, if_neg c2, if_neg c3]
         exact Ev.now _
theorem squareD_l1 (l : List Int) (hl : Bytes l) (n : Nat) (h1n : 1 ≤ n) (hn : n ≤ 10) (i : Nat) (hi : i < n) (Q : List (List Int) × Int × Int → Prop) (a0 : Int) (hr : ∀ T a s, Sq n T → a0 ≤ a → a ≤ a0 + 10 * (n : Int) → ∃ r, Ev (fun k => spec_l1Cur_square.l0 k (n : Int) T (n : Int) (wrap64 ((i : Int) + 1)) l a s) r ∧ Q r) (h0 : 0 ≤ a0) (h1 : a0 ≤ 700000000) : ∀ (d j : Nat) (T : List (List Int)) (a s : Int), j + d = n → Sq n T → a0 ≤ a → a ≤ a0 + 10 * (j : Int) → ∃ r, Ev (fun k => spec_l1Cur_square.l1 k (n : Int) T (i : Int) (n : Int) (i : Int) (n : Int) (j : Int) l a s) r ∧ Q r
 | 0, j, T, a, s, hj, hT, g0, g1 => by
  obtain ⟨r, e, q⟩ := hr T a s hT g0 (by omega)
  refine ⟨r, Ev.succ ?_, q⟩
  simp only [spec_l1Cur_square.l1, if_neg (show ¬ (j : Int) < (n : Int) by omega)]
  exact e
 | d + 1, j, T, a, s, hj, hT, g0, g1 => by
  have hlen := hT.len
  have hrow := hT.row i hi
  obtain ⟨x, a1, s1, e1, x0, x1, b0, b1⟩ := pick_ev l hl a s 9 (by omega) (by omega)
  obtain ⟨v, a2, s2, e2, v0, c0, c1⟩ := among_ev l hl a1 s1 ([0, 0, 1, 2, x] : List Int) (by simp) (by omega) (by omega)
  obtain ⟨r, e, q⟩ := squareD_l1 l hl n h1n hn i hi Q a0 hr h0 h1 d (j + 1) (T.set i ((rd_L1 T (i : Int)).set j v)) a2 s2 (by omega) (hT.set hi (by rw [List.length_set, hrow])) (by omega) (by omega)
  refine ⟨r, Ev.succ ?_, q⟩
  simp only [spec_l1Cur_square.l1, if_pos (show (j : Int) < (n : Int) by omega), e1, e2, Option.bind_some, if_pos (Int.natCast_nonneg i), if_pos (show (i : Int) < (T.length : Int) by omega), if_pos (Int.natCast_nonneg j), if_pos (show (j : Int) < ((rd_L1 T (i : Int)).length : Int) by omega), Int.toNat_natCast, wsucc (show j < n by omega) (by omega)]
  exact e
theorem squareD_l0 (l : List Int) (hl : Bytes l) (n : Nat) (h1n : 1 ≤ n) (hn : n ≤ 10) (a0 : Int) (h0 : 0 ≤ a0) (h1 : a0 ≤ 600000000) : ∀ (d i : Nat) (T : List (List Int)) (a s : Int), i + d = n → Sq n T → a0 ≤ a → a ≤ a0 + 100 * (i : Int) → ∃ r, Ev (fun k => spec_l1Cur_square.l0 k (n : Int) T (n : Int) (i : Int) l a s) r ∧ (Few r.1 ∧ a0 ≤ r.2.1 ∧ r.2.1 ≤ a0 + 2000)
 | 0, i, T, a, s, hi, hT, g0, g1 => by
  obtain ⟨r, e, q1, q2, q3⟩ := squareD_j2 l hl n h1n hn T hT a s (by omega) (by omega)
  refine ⟨r, Ev.succ ?_, q1, by omega, by omega⟩
  simp only [spec_l1Cur_square.l0, if_neg (show ¬ (i : Int) < (n : Int) by omega)]
  exact e
 | d + 1, i, T, a, s, hi, hT, g0, g1 => by
  have hlen := hT.len
  obtain ⟨r, e, q⟩ := squareD_l1 l hl n h1n hn i (by omega) (fun r => Few r.1 ∧ a0 ≤ r.2.1 ∧ r.2.1 ≤ a0 + 2000) a (fun T a' s' hT' k0 k1 => by
   rw [wsucc (show i < n by omega) (by omega)]
   exact squareD_l0 l hl n h1n hn a0 h0 h1 d (i + 1) T a' s' (by omega) hT' (by omega) (by omega)) (by omega) (by omega) n 0 T a s (by omega) hT (Int.le_refl _) (by omega)
  refine ⟨r, Ev.succ ?_, q⟩
  simp only [spec_l1Cur_square.l0, if_pos (show (i : Int) < (n : Int) by omega), hlen]
  exact e
theorem side_mem {x : Int} (h : x ∈ ([1, 2, 3, 3, 3, 4, 4, 6] : List Int)) : 1 ≤ x ∧ x ≤ 6 := by
 simp only [List.mem_cons, List.not_mem_nil, or_false] at h
 omega
theorem square_dev (l : List Int) (hl : Bytes l) (a s : Int) (h0 : 0 ≤ a) (h1 : a ≤ 500000000) : ∃ T a' s', Ev (fun k => spec_l1Cur_square.f k l a s) (T, a', s') ∧ Few T ∧ a ≤ a' ∧ a' ≤ a + 3000 := by
 obtain ⟨x, a1, s1, e1, hx, b0, b1⟩ := among_ev l hl a s ([1, 2, 3, 3, 3, 4, 4, 6] : List Int) (by decide) h0 (by omega)
 have hx := side_mem hx
 obtain ⟨n, rfl⟩ : ∃ n : Nat, x = (n : Int) := ⟨x.toNat, by omega⟩
 obtain ⟨T, a2, s2, e2, hT, c0, c1⟩ := equal_dev l hl n (by omega) a1 s1 (by omega) (by omega)
 obtain ⟨t, a3, s3, e3, d0, d1⟩ := one_ev l hl a2 s2 3 (by omega) (by omega)
 have hlen := hT.len
 have hside : spec_l1Cur_side.f l a s = some ((n : Int), a1, s1) := by
  unfold spec_l1Cur_side.f
  simp only [e1, Option.bind_some]
 have key : ∃ r : List (List Int) × Int × Int, Ev (fun k => if t = true then spec_l1Cur_square.l0 k (n : Int) T (T.length : Int) 0 l a3 s3 else spec_l1Cur_square.j2 k (n : Int) T l a3 s3) r ∧ (Few r.1 ∧ a3 ≤ r.2.1 ∧ r.2.1 ≤ a3 + 2000) := by
  cases t with
  | true =>
   obtain ⟨r, e, q⟩ := squareD_l0 l hl n (by omega) (by omega) a3 (by omega) (by omega) n 0 T a3 s3 (by omega) hT (Int.le_refl _) (by omega)
   refine ⟨r, ?_, q⟩
   simp only [if_true, hlen]
   exact e
  | false =>
   obtain ⟨r, e, q1, q2, q3⟩ := squareD_j2 l hl n (by omega) (by omega) T hT a3 s3 (by omega) (by omega)
   refine ⟨r, ?_, q1, q2, by omega⟩
   simp only [Bool.false_eq_true, if_false]
   exact e
 obtain ⟨r, e, q1, q2, q3⟩ := key
 refine ⟨r.1, r.2.1, r.2.2, ?_, q1, by omega, by omega⟩
 unfold spec_l1Cur_square.f
 simp only [hside, Option.bind_some]
 refine Ev.bind e2 ?_
 simp only [e3, Option.bind_some]
 exact e
theorem drawAdd_ev (l : List Int) (hl : Bytes l) : ∃ T U, Ev (fun k => spec_DrawAddTables.f k l) (T, U) ∧ Few T ∧ Few U := by
 obtain ⟨T, a1, s1, e1, hT, b0, b1⟩ := square_dev l hl 0 0 (by omega) (by omega)
 have J : ∀ (t : Bool) (a s : Int), 0 ≤ a → a ≤ 100000 → (t = false → 1 ≤ T.length ∧ T.length ≤ 6) → ∃ U, Ev (fun k => spec_DrawAddTables.j0 k T t l a s) (T, U) ∧ Few U := by
  intro t a s g0 g1 ht
  cases t with
  | true =>
   obtain ⟨U, a2, s2, e2, hU, _, _⟩ := square_dev l hl a s g0 (by omega)
   refine ⟨U, Ev.succ ?_, hU⟩
   simp only [spec_DrawAddTables.j0, if_true]
   exact Ev.bind e2 (Ev.now _)
  | false =>
   have ht := ht rfl
   obtain ⟨U, a2, s2, e2, hU, _, _⟩ := equal_dev l hl T.length (by omega) a s g0 (by omega)
   refine ⟨U, Ev.succ ?_, hU.few (by omega)⟩
   simp only [spec_DrawAddTables.j0, Bool.false_eq_true, if_false]
   exact Ev.bind e2 (Ev.now _)
 unfold spec_DrawAddTables.f
 by_cases c : (T.length : Int) = 0
 · obtain ⟨U, e, hU⟩ := J true a1 s1 (by omega) (by omega) (fun h => by cases h)
   refine ⟨T, U, Ev.bind e1 ?_, hT, hU⟩
   simp only [if_pos c]
   exact e
 · by_cases c2 : (T.length : Int) > 6
   · obtain ⟨U, e, hU⟩ := J true a1 s1 (by omega) (by omega) (fun h => by cases h)
     refine ⟨T, U, Ev.bind e1 ?_, hT, hU⟩
     simp only [if_neg c, if_pos c2]
     exact e
   · obtain ⟨t, a2, s2, e2, d0, d1⟩ := one_ev l hl a1 s1 8 (by omega) (by omega)
     obtain ⟨U, e, hU⟩ := J t a2 s2 (by omega) (by omega) (fun _ => by omega)
     refine ⟨T, U, Ev.bind e1 ?_, hT, hU⟩
     simp only [if_neg c, if_neg c2, e2, Option.bind_some]
     exact e
theorem drawMul_ev (l : List Int) (hl : Bytes l) : ∃ T U, Ev (fun k => spec_DrawMultiplyTables.f k l) (T, U) ∧ Few T ∧ Few U := by
 obtain ⟨T, U, e, h1, h2⟩ := drawAdd_ev l hl
 refine ⟨T, U, ?_, h1, h2⟩
 unfold spec_DrawMultiplyTables.f
 exact Ev.bind e (Ev.now _)
theorem drawScale_ev (l : List Int) (hl : Bytes l) : ∃ T b, Ev (fun k => spec_DrawScaleTable.f k l) (T, b) ∧ Few T := by
 obtain ⟨T, a1, s1, e1, hT, b0, b1⟩ := square_dev l hl 0 0 (by omega) (by omega)
 obtain ⟨v, a2, s2, e2, v0, c0, c1⟩ := among_ev l hl a1 s1 ([0, 1, 2, 5, (-1), 1000000, 1000001] : List Int) (by decide) (by omega) (by omega)
 refine ⟨T, v, ?_, hT⟩
 unfold spec_DrawScaleTable.f
 refine Ev.bind e1 ?_
 simp only [e2, Option.bind_some]
 exact Ev.now _
theorem drawGift_ev (l : List Int) (hl : Bytes l) : ∃ n i j s k, spec_DrawGiftTable.f l = some (n, i, j, s, k) := by
 unfold spec_DrawGiftTable.f
 obtain ⟨x1, a1, s1, e1, v1, b1, c1⟩ := among_ev l hl 0 0 ([1, 2, 3, 4, 6, 7, 0] : List Int) (by decide) (by omega) (by omega)
 obtain ⟨x2, a2, s2, e2, v2, v2', b2, c2⟩ := pick_ev l hl a1 s1 6 (by omega) (by omega)
 obtain ⟨x3, a3, s3, e3, v3, v3', b3, c3⟩ := pick_ev l hl a2 s2 4 (by omega) (by omega)
 obtain ⟨x4, a4, s4, e4, v4, b4, c4⟩ := among_ev l hl a3 s3 ([0, 0, 0, 1] : List Int) (by decide) (by omega) (by omega)
 obtain ⟨x5, a5, s5, e5, v5, b5, c5⟩ := among_ev l hl a4 s4 ([1, 2, 5, 1000, 1001, 0] : List Int) (by decide) (by omega) (by omega)
 obtain ⟨x6, a6, s6, e6, v6, b6, c6⟩ := among_ev l hl a5 s5 ([0, 1, 2, x5, wrap64 (x5 + 1), (-1)] : List Int) (by simp) (by omega) (by omega)
 simp only [e1, e2, e3, e4, e5, e6, Option.bind_some]
 exact ⟨_, _, _, _, _, rfl⟩
end Go.Proofs.Ytkhpojcplejdjaa.A

namespace Go.Proofs.Ytkhpojcplejdjaa.A
open Go.RowKit Go.Proofs.YtkhpojcplejdjaaW.PrintWords Go.Proofs.YtkhpojcplejdjaaW.PrintLast Go.Proofs.YtkhpojcplejdjaaW.PrintMore
set_option linter.unusedVariables false
set_option linter.unusedSimpArgs false
/-! GiftTable -/
def gtG (i j : Nat) (s k : Int) (a b : Nat) : Int := if a = b then (if a = i then s - k else if a = j then s - k else s) else if a = i then (if b = j then k else 0) else if a = j then (if b = i then k else 0) else 0
def gtR (n i j s k : Int) : List (List Int) × Bool := if 1 ≤ n ∧ n ≤ 6 then (if 1 ≤ j ∧ j ≤ n - 1 then (if 0 ≤ i ∧ i ≤ j - 1 then (if 1 ≤ s ∧ s ≤ 1000 then (if 0 ≤ k ∧ k ≤ s then (tabG n.toNat (gtG i.toNat j.toNat s k), true) else ([], false)) else ([], false)) else ([], false)) else ([], false)) else ([], false)
theorem gtR_bd (n i j s k : Int) : totSS (gtR n i j s k).1 ≤ 1000 ∧ (gtR n i j s k).1.length ≤ 1000 := by
 have h0 : totSS ([] : List (List Int)) ≤ 1000 ∧ ([] : List (List Int)).length ≤ 1000 := by simp [totSS]
 unfold gtR
 split
 · next h =>
   repeat' split
   · have hn : n.toNat ≤ 6 := by omega
     rw [tabG_tot, tabG_length]
     have := Nat.mul_le_mul hn hn
     omega
   all_goals exact h0
 · exact h0
theorem doGift_l (n i j : Nat) (s k : Int) (hn : n ≤ 6) (hij : i < j) (hj : j < n) (hs : 1 ≤ s ∧ s ≤ 1000) (hk : 0 ≤ k ∧ k ≤ s) : ∀ (m x : Nat), x + m = n → Ev (fun q => spec_doGift.l0 q (n : Int) (i : Int) (j : Int) s k (tabG n fun a b => if a = b ∧ a < x then s else 0) (x : Int)) (tabG n (gtG i j s k))
 | 0, x, e => by
  have hxe : x = n := by omega
  subst hxe
  refine Ev.succ ?_
  have hi : i < x := by omega
  simp only [spec_doGift.l0, if_neg (show ¬ (x : Int) < (x : Int) by omega), if_pos (show (0 : Int) ≤ (i : Int) by omega), if_pos (show (0 : Int) ≤ (j : Int) by omega), tabG_length, if_pos (show (i : Int) < (x : Int) by omega), if_pos (show (j : Int) < (x : Int) by omega), tabG_rowlen _ hi, tabG_rowlen _ hj, Int.toNat_natCast, w64 (x := s - k) (by omega) (by omega), tabG_set _ _ _ hi, tabG_set _ _ _ hj, Option.bind_some]
  have e : tabG x (updG (updG (updG (updG (fun a b => if a = b ∧ a < x then s else 0) i i (s - k)) j j (s - k)) i j k) j i k) = tabG x (gtG i j s k) := tabG_congr (fun a b ha hb => by
   unfold updG gtG
   by_cases c1 : a = b
   · subst c1
     by_cases c2 : a = i
     · subst c2
       simp [show ¬ a = j by omega]
     · by_cases c3 : a = j
       · subst c3
         simp [c2]
       · simp [c2, c3, ha]
   · by_cases c2 : a = i
     · subst c2
       by_cases c3 : b = j
       · subst c3
         simp [c1, show ¬ a = b by omega]
       · simp [c1, c3, show ¬ a = j by omega, show ¬ b = a by omega]
     · by_cases c3 : a = j
       · subst c3
         by_cases c4 : b = i
         · subst c4
           simp [c1, c2]
         · simp [c1, c2, c4, show ¬ b = a from fun h => c1 h.symm]
       · simp [c1, c2, c3])
  rw [e]
  exact Ev.now _
 | m + 1, x, e => by
  have hx : x < n := by omega
  refine Ev.succ ?_
  simp only [spec_doGift.l0, if_pos (show (x : Int) < (n : Int) by omega), if_pos (show (0 : Int) ≤ (x : Int) by omega), tabG_length, tabG_rowlen _ hx, Int.toNat_natCast, tabG_set _ _ _ hx, wsucc hx (by omega)]
  have := doGift_l n i j s k hn hij hj hs hk m (x + 1) (by omega)
  rw [tabG_congr (G' := fun a b => if a = b ∧ a < x + 1 then s else 0) (fun a b ha hb => by
   unfold updG
   by_cases c : a = x ∧ b = x
   · rw [if_pos c, if_pos (by omega)]
   · rw [if_neg c]
     show (if a = b ∧ a < x then s else 0) = _
     by_cases d : a = b ∧ a < x
     · rw [if_pos d, if_pos (by omega)]
     · rw [if_neg d, if_neg (by omega)])]
  exact this
theorem specGiftTable_ev (n i j s k : Int) : Ev (fun q => spec_GiftTable.f q n i j s k) (gtR n i j s k) := by
 unfold spec_GiftTable.f gtR
 simp only [l1In_eq, Option.bind_some, decide_eq_true_eq]
 refine Ev.ite (fun h1 => ?_) (fun _ => Ev.now _)
 simp only [w64 (x := n - 1) (by omega) (by omega)]
 refine Ev.ite (fun h2 => ?_) (fun _ => Ev.now _)
 simp only [w64 (x := j - 1) (by omega) (by omega)]
 refine Ev.ite (fun h3 => Ev.ite (fun h4 => Ev.ite (fun h5 => ?_) (fun _ => Ev.now _)) (fun _ => Ev.now _)) (fun _ => Ev.now _)
 obtain ⟨n, rfl⟩ := Int.eq_ofNat_of_zero_le (show 0 ≤ n by omega)
 obtain ⟨i, rfl⟩ := Int.eq_ofNat_of_zero_le (show 0 ≤ i by omega)
 obtain ⟨j, rfl⟩ := Int.eq_ofNat_of_zero_le (show 0 ≤ j by omega)
 refine Ev.bind (a := tabG n (gtG i j s k)) ?_ (Ev.now _)
 unfold spec_doGift.f
 refine Ev.bind (doEmpty_ev n (by omega)) ?_
 have := doGift_l n i j s k (by omega) (by omega) (by omega) h4 h5 n 0 (by omega)
 rw [tabG_congr (G' := fun _ _ => 0) (fun a b _ _ => by simp)] at this
 exact this
theorem implGiftTable_ev (n i j s k : Int) : Ev (fun q => impl_GiftTable.f q n i j s k) (gtR n i j s k) := by
 unfold impl_GiftTable.f gtR
 simp only [within_eq, Option.bind_some, decide_eq_true_eq]
 refine Ev.ite (fun h1 => ?_) (fun _ => Ev.now _)
 simp only [w64 (x := n - 1) (by omega) (by omega)]
 by_cases h2 : 1 ≤ j ∧ j ≤ n - 1
 · simp only [if_pos h2, if_pos (show 0 ≤ j ∧ j ≤ n - 1 by omega)]
   simp only [w64 (x := j - 1) (by omega) (by omega)]
   refine Ev.ite (fun h3 => Ev.ite (fun h4 => Ev.ite (fun h5 => ?_) (fun _ => Ev.now _)) (fun _ => Ev.now _)) (fun _ => Ev.now _)
   obtain ⟨n, rfl⟩ := Int.eq_ofNat_of_zero_le (show 0 ≤ n by omega)
   obtain ⟨i, rfl⟩ := Int.eq_ofNat_of_zero_le (show 0 ≤ i by omega)
   obtain ⟨j, rfl⟩ := Int.eq_ofNat_of_zero_le (show 0 ≤ j by omega)
   refine Ev.bind (a := tabG n (gtG i j s k)) ?_ (Ev.now _)
   unfold impl_giftTable.f
   simp only [if_pos (show 0 ≤ s ∧ s ≤ 1000000 ∧ 0 ≤ k ∧ k ≤ 1000000 by omega)]
   refine square_ev _ _ n (by omega) (fun a b ha hb => ?_)
   congr 1
   unfold giftE gtG
   simp only [Int.ofNat_inj]
   by_cases c1 : a = b
   · subst c1
     simp
   · by_cases c2 : a = i
     · subst c2
       simp [c1, show ¬ a = j by omega]
     · simp [c1, c2]
 · simp only [if_neg h2]
   by_cases h3 : 0 ≤ j ∧ j ≤ n - 1
   · simp only [if_pos h3]
     have ej : j = 0 := by omega
     subst ej
     simp only [if_neg (show ¬ (0 ≤ i ∧ i ≤ wrap64 (0 - 1)) by rw [w64 (by omega) (by omega)]; omega)]
     exact Ev.now _
   · simp only [if_neg h3]
     exact Ev.now _
end Go.Proofs.Ytkhpojcplejdjaa.A

namespace Go.Proofs.Ytkhpojcplejdjaa.A
open Go.RowKit Go.Proofs.YtkhpojcplejdjaaW.PrintWords Go.Proofs.YtkhpojcplejdjaaW.PrintLast Go.Proofs.YtkhpojcplejdjaaW.PrintMore
set_option linter.unusedVariables false
set_option linter.unusedSimpArgs false
/-! the words that the laws share -/
theorem Ev.ite' {α : Type} {c : Prop} [Decidable c] {g f : Nat → Option α} {r : α} (h : c → Ev g r) (h' : ¬ c → Ev f r) : Ev (fun k => if c then g k else f k) r := by
 by_cases hc : c
 · simp only [hc, if_true]
   exact h hc
 · simp only [hc, if_false]
   exact h' hc
theorem big_eq (a b : List Int) (ha : a.length ≤ 140737488355328) : laws_big.f a b = some (decide ((a.length : Int) > 1048576 ∨ (b.length : Int) > 1048576 - (a.length : Int))) := by
 unfold laws_big.f
 rw [w64 (x := 1048576 - (a.length : Int)) (by omega) (by omega)]
 by_cases h : (a.length : Int) > 1048576
 · simp [h]
 · simp only [if_neg h]
   congr 1
   by_cases h2 : (b.length : Int) > 1048576 - (a.length : Int)
   · rw [decide_eq_true h2, decide_eq_true (.inr h2)]
   · rw [decide_eq_false h2, decide_eq_false (by omega)]
theorem bytes_of {l : List Int} (h : l.length ≤ 1048576) (hx : ∀ x ∈ l, (Lit.int .u8 x).wf = true) : Bytes l := by
 refine ⟨h, fun x hm => ?_⟩
 have := hx x hm
 simp only [Lit.wf, Bool.and_eq_true, decide_eq_true_eq] at this
 exact ⟨this.1, this.2⟩
theorem big_cut (l0 l1 : List Int) (g0 : l0.length * 1 ≤ 140737488351232) (x0 : ∀ x ∈ l0, (Lit.int .u8 x).wf = true) (x1 : ∀ x ∈ l1, (Lit.int .u8 x).wf = true) : laws_big.f l0 l1 = some true ∨ laws_big.f l0 l1 = some false ∧ Bytes l0 ∧ Bytes l1 := by
 rw [big_eq l0 l1 (by omega)]
 by_cases hb : (l0.length : Int) > 1048576 ∨ (l1.length : Int) > 1048576 - (l0.length : Int)
 · rw [decide_eq_true hb]
   exact .inl rfl
 · rw [decide_eq_false hb]
   exact .inr ⟨rfl, bytes_of (by omega) x0, bytes_of (by omega) x1⟩
end Go.Proofs.Ytkhpojcplejdjaa.A

namespace Go.Proofs.Ytkhpojcplejdjaa.A
open Go.RowKit Go.Proofs.YtkhpojcplejdjaaW.PrintWords Go.Proofs.YtkhpojcplejdjaaW.PrintLast Go.Proofs.YtkhpojcplejdjaaW.PrintMore
set_option linter.unusedVariables false
set_option linter.unusedSimpArgs false
/-! ScaleTable -/
def scR (l0 : List (List Int)) (b : Int) : List (List Int) × Bool := if squareB l0 = true then (if 0 ≤ b ∧ b ≤ 1000000 then checkR (tabG l0.length fun i j => atG l0 i j * b) else ([], false)) else ([], false)
theorem scR_bd (l0 : List (List Int)) (b : Int) : totSS (scR l0 b).1 ≤ 1000 ∧ (scR l0 b).1.length ≤ 1000 := by
 have h0 : totSS ([] : List (List Int)) ≤ 1000 ∧ ([] : List (List Int)).length ≤ 1000 := by simp [totSS]
 unfold scR
 repeat' split
 · exact checkR_bd _
 all_goals exact h0
theorem scale_bd {l : List (List Int)} (h : Tab l) {i j : Nat} (hi : i < l.length) (hj : j < l.length) {b : Int} (hb : 0 ≤ b ∧ b ≤ 1000000) : 0 ≤ atG l i j * b ∧ atG l i j * b ≤ 1000000000000 := by
 have b0 := atG_bd h hi hj
 exact ⟨Int.mul_nonneg b0.1 hb.1, Int.mul_le_mul b0.2 hb.2 hb.1 (by decide)⟩
theorem specScaleTable_ev (l0 : List (List Int)) (b : Int) (u0 : l0.length ≤ 1048576) (v0 : totSS l0 ≤ 1048576) : Ev (fun k => spec_ScaleTable.f k l0 b) (scR l0 b) := by
 unfold spec_ScaleTable.f scR
 refine Ev.bind (doGood_ev l0 u0 v0) (Ev.ite (fun h0 => ?_) (fun _ => Ev.succ (by simp only [spec_ScaleTable.j0, if_true]; exact Ev.now _)))
 obtain ⟨T0, n0⟩ := square_tab h0
 have hl := T0.len
 simp only [l1In_eq, Option.bind_some]
 refine Ev.succ ?_
 simp only [spec_ScaleTable.j0]
 by_cases e : 0 ≤ b ∧ b ≤ 1000000
 · simp only [if_pos e, decide_eq_true e, Bool.not_true, Bool.false_eq_true, if_false]
   refine Ev.bind (doEmpty_ev l0.length (by omega)) ?_
   refine fill_ev l0.length (fun i j => atG l0 i j * b) (fun k X i => spec_ScaleTable.l0 k l0 b X (l0.length : Int) i) (fun k X i j => spec_ScaleTable.l1 k l0 b X i (l0.length : Int) i (l0.length : Int) j) ?_ ?_ ?_ ?_
   · refine Ev.succ ?_
     simp only [spec_ScaleTable.l0, if_neg (Int.lt_irrefl _)]
     exact Ev.bind (doIfG_ev _ hl _) (Ev.now _)
   · intro i hi X hX
     refine Ev.succ ?_
     simp only [spec_ScaleTable.l0, if_pos (show (i : Int) < (l0.length : Int) by omega)]
     exact hX
   · intro i j hi hj H hz hX
     have b0 := scale_bd T0 hi hj e
     refine Ev.succ ?_
     simp only [spec_ScaleTable.l1, if_pos (show (j : Int) < (l0.length : Int) by omega), if_pos (show (0 : Int) ≤ (i : Int) by omega), if_pos (show (0 : Int) ≤ (j : Int) by omega), tabG_length, tab_rowlen T0 hi, tabG_rowlen _ hi, if_pos (show (i : Int) < (l0.length : Int) by omega), Int.toNat_natCast, tabG_set _ _ _ hi, wsucc hj (by omega)]
     rw [show wrap64 (rd (rd_L1 l0 (i : Int)) (j : Int) * b) = atG l0 i j * b from w64 (by unfold atG at b0; omega) (by unfold atG at b0; omega)]
     exact hX
   · intro i hi X hX
     refine Ev.succ ?_
     simp only [spec_ScaleTable.l1, if_neg (Int.lt_irrefl _), wsucc hi (by omega)]
     exact hX
 · simp only [if_neg e, decide_eq_false e, Bool.not_false, if_true]
   exact Ev.now _
theorem implScaleTable_ev (l0 : List (List Int)) (b : Int) (u0 : l0.length ≤ 1048576) (v0 : totSS l0 ≤ 1048576) : Ev (fun k => impl_ScaleTable.f k l0 b) (scR l0 b) := by
 unfold impl_ScaleTable.f scR
 simp only [implIsSquare_eq l0 u0 v0, within_eq, Option.bind_some, decide_eq_true_eq]
 refine Ev.ite (fun h0 => Ev.ite (fun e => ?_) (fun _ => Ev.now _)) (fun _ => Ev.now _)
 obtain ⟨T0, n0⟩ := square_tab h0
 have hl := T0.len
 refine Ev.bind (square_ev _ (fun i j => atG l0 i j * b) l0.length (by omega) (fun i j hi hj => ?_)) ?_
 · have b0 := scale_bd T0 hi hj e
   unfold scaleF
   rw [if_pos (by rw [tab_rowlen T0 hi]; omega), Int.mul_comm b]
   exact congrArg some (w64 (by unfold atG at b0; omega) (by unfold atG at b0; omega))
 · simp only [checkedG_eq _ hl]
   exact Ev.now _
end Go.Proofs.Ytkhpojcplejdjaa.A

namespace Go.Proofs.Ytkhpojcplejdjaa.A
open Go.RowKit Go.Proofs.YtkhpojcplejdjaaW.PrintWords Go.Proofs.YtkhpojcplejdjaaW.PrintLast Go.Proofs.YtkhpojcplejdjaaW.PrintMore
set_option linter.unusedVariables false
set_option linter.unusedSimpArgs false
/-! product, MultiplyTables -/
def dotN (l0 l1 : List (List Int)) (i j : Nat) : Nat → Int
 | 0 => 0
 | k + 1 => dotN l0 l1 i j k + atG l0 i k * atG l1 k j
theorem dotN_bd {l0 l1 : List (List Int)} (T0 : Tab l0) (T1 : Tab l1) (e : l1.length = l0.length) {i j : Nat} (hi : i < l0.length) (hj : j < l0.length) : ∀ k, k ≤ l0.length → 0 ≤ dotN l0 l1 i j k ∧ dotN l0 l1 i j k ≤ 1000000000000 * (k : Int)
 | 0, _ => by simp [dotN]
 | k + 1, h => by
  have ih := dotN_bd T0 T1 e hi hj k (by omega)
  have b0 := atG_bd T0 hi (show k < l0.length by omega)
  have b1 := atG_bd T1 (show k < l1.length by omega) (show j < l1.length by omega)
  have p0 := Int.mul_nonneg b0.1 b1.1
  have p1 : atG l0 i k * atG l1 k j ≤ 1000000 * 1000000 := Int.mul_le_mul b0.2 b1.2 b1.1 (by decide)
  unfold dotN
  omega
theorem prodG_bd {l0 l1 : List (List Int)} (T0 : Tab l0) (T1 : Tab l1) (e : l1.length = l0.length) {i j k : Nat} (hi : i < l0.length) (hj : j < l0.length) (hk : k < l0.length) : 0 ≤ atG l0 i k * atG l1 k j ∧ atG l0 i k * atG l1 k j ≤ 1000000000000 := by
 have b0 := atG_bd T0 hi hk
 have b1 := atG_bd T1 (show k < l1.length by omega) (show j < l1.length by omega)
 exact ⟨Int.mul_nonneg b0.1 b1.1, Int.mul_le_mul b0.2 b1.2 b1.1 (by decide)⟩
def timesT (l0 l1 : List (List Int)) : List (List Int) := tabG l0.length fun i j => dotN l0 l1 i j l0.length
def muR (l0 l1 : List (List Int)) : List (List Int) × Bool := if squareB l0 = true then (if squareB l1 = true then (if (l0.length : Int) = (l1.length : Int) then checkR (timesT l0 l1) else ([], false)) else ([], false)) else ([], false)
theorem muR_bd (l0 l1 : List (List Int)) : totSS (muR l0 l1).1 ≤ 1000 ∧ (muR l0 l1).1.length ≤ 1000 := by
 have h0 : totSS ([] : List (List Int)) ≤ 1000 ∧ ([] : List (List Int)).length ≤ 1000 := by simp [totSS]
 unfold muR
 repeat' split
 · exact checkR_bd _
 all_goals exact h0
theorem times_l2 {l0 l1 : List (List Int)} (T0 : Tab l0) (T1 : Tab l1) (e : l1.length = l0.length) {i j : Nat} (hi : i < l0.length) (hj : j < l0.length) (H : Nat → Nat → Int) {r : List (List Int)} (hr : Ev (fun q => spec_doTimes.l1 q l0 l1 (tabG l0.length (updG H i j (dotN l0 l1 i j l0.length))) (i : Int) (l0.length : Int) (i : Int) (l0.length : Int) ((j + 1 : Nat) : Int)) r) : ∀ (m k : Nat), k + m = l0.length → Ev (fun q => spec_doTimes.l2 q l0 l1 (tabG l0.length (updG H i j (dotN l0 l1 i j k))) (i : Int) (j : Int) (l0.length : Int) (i : Int) (l0.length : Int) (j : Int) (l0.length : Int) (k : Int)) r
 | 0, k, ek => by
  have ej : k = l0.length := by omega
  subst ej
  refine Ev.succ ?_
  have := T0.len
  simp only [spec_doTimes.l2, if_neg (Int.lt_irrefl _), wsucc hj (by omega)]
  exact hr
 | m + 1, k, ek => by
  have hk : k < l0.length := by omega
  have b0 := dotN_bd T0 T1 e hi hj k (by omega)
  have b1 := prodG_bd T0 T1 e hi hj hk
  have hl := T0.len
  refine Ev.succ ?_
  simp only [spec_doTimes.l2, if_pos (show (k : Int) < (l0.length : Int) by omega), if_pos (show (0 : Int) ≤ (i : Int) by omega), if_pos (show (0 : Int) ≤ (j : Int) by omega), if_pos (show (0 : Int) ≤ (k : Int) by omega), tabG_length, tabG_rowlen _ hi, tab_rowlen T0 hi, tab_rowlen T1 (show k < l1.length by omega), if_pos (show (i : Int) < (l0.length : Int) by omega), if_pos (show (j : Int) < (l0.length : Int) by omega), if_pos (show (k : Int) < (l1.length : Int) by omega), if_pos (show (j : Int) < (l1.length : Int) by omega), Int.toNat_natCast, tabG_set _ _ _ hi, tabG_at _ hi hj, wsucc hk (by omega)]
  have hv : wrap64 (updG H i j (dotN l0 l1 i j k) i j + wrap64 (rd (rd_L1 l0 (i : Int)) (k : Int) * rd (rd_L1 l1 (k : Int)) (j : Int))) = dotN l0 l1 i j (k + 1) := by
   have h1 : updG H i j (dotN l0 l1 i j k) i j = dotN l0 l1 i j k := if_pos ⟨rfl, rfl⟩
   rw [h1, show rd (rd_L1 l0 (i : Int)) (k : Int) * rd (rd_L1 l1 (k : Int)) (j : Int) = atG l0 i k * atG l1 k j from rfl, w64 (x := atG l0 i k * atG l1 k j) (by omega) (by omega), w64 (by omega) (by omega)]
   rfl
  rw [hv, tabG_congr (G' := updG H i j (dotN l0 l1 i j (k + 1))) (fun a b _ _ => by
   unfold updG
   by_cases c : a = i ∧ b = j
   · rw [if_pos c, if_pos c]
   · rw [if_neg c, if_neg c, if_neg c])]
  exact times_l2 T0 T1 e hi hj H hr m (k + 1) (by omega)
theorem doTimes_ev {l0 l1 : List (List Int)} (T0 : Tab l0) (T1 : Tab l1) (e : l1.length = l0.length) : Ev (fun k => spec_doTimes.f k l0 l1) (timesT l0 l1) := by
 have hl := T0.len
 unfold spec_doTimes.f
 refine Ev.bind (doEmpty_ev l0.length (by omega)) ?_
 refine fill_ev l0.length (fun i j => dotN l0 l1 i j l0.length) (fun k X i => spec_doTimes.l0 k l0 l1 X (l0.length : Int) i) (fun k X i j => spec_doTimes.l1 k l0 l1 X i (l0.length : Int) i (l0.length : Int) j) ?_ ?_ ?_ ?_
 · refine Ev.succ ?_
   simp only [spec_doTimes.l0, if_neg (Int.lt_irrefl _)]
   exact Ev.now _
 · intro i hi X hX
   refine Ev.succ ?_
   simp only [spec_doTimes.l0, if_pos (show (i : Int) < (l0.length : Int) by omega)]
   exact hX
 · intro i j hi hj H hz hX
   refine Ev.succ ?_
   simp only [spec_doTimes.l1, if_pos (show (j : Int) < (l0.length : Int) by omega)]
   have key := times_l2 T0 T1 e hi hj H hX l0.length 0 (by omega)
   rw [tabG_congr (G' := H) (fun a b _ _ => by
    unfold updG
    by_cases c : a = i ∧ b = j
    · rw [if_pos c, c.1, c.2, hz]
      rfl
    · rw [if_neg c])] at key
   exact key
 · intro i hi X hX
   refine Ev.succ ?_
   simp only [spec_doTimes.l1, if_neg (Int.lt_irrefl _), wsucc hi (by omega)]
   exact hX
theorem specMultiplyTables_ev (l0 l1 : List (List Int)) (u0 : l0.length ≤ 1048576) (v0 : totSS l0 ≤ 1048576) (u1 : l1.length ≤ 1048576) (v1 : totSS l1 ≤ 1048576) : Ev (fun k => spec_MultiplyTables.f k l0 l1) (muR l0 l1) := by
 unfold spec_MultiplyTables.f muR
 refine Ev.bind (doGood_ev l0 u0 v0) (Ev.ite (fun h0 => ?_) (fun _ => Ev.succ (by simp only [spec_MultiplyTables.j0, if_true]; exact Ev.now _)))
 refine Ev.bind (doGood_ev l1 u1 v1) (Ev.ite (fun h1 => ?_) (fun _ => Ev.succ (by simp only [spec_MultiplyTables.j0, if_true]; exact Ev.now _)))
 obtain ⟨T0, n0⟩ := square_tab h0
 obtain ⟨T1, n1⟩ := square_tab h1
 refine Ev.succ ?_
 simp only [spec_MultiplyTables.j0]
 by_cases e : (l0.length : Int) = (l1.length : Int)
 · simp only [if_pos e, show ((l0.length : Int) != (l1.length : Int)) = false from bne_eq_false_iff_eq.mpr e, Bool.false_eq_true, if_false]
   exact Ev.bind (doTimes_ev T0 T1 (by omega)) (Ev.bind (doIfG_ev _ T0.len _) (Ev.now _))
 · simp only [if_neg e, show ((l0.length : Int) != (l1.length : Int)) = true from bne_iff_ne.mpr e, if_true]
   exact Ev.now _
theorem timesG_eq {l0 l1 : List (List Int)} (T0 : Tab l0) (T1 : Tab l1) (e : l1.length = l0.length) {i j : Nat} (hi : i < l0.length) (hj : j < l0.length) : ∀ (m k : Nat), k + m = l0.length → timesG l0 l1 (i : Int) (j : Int) m (k : Int) (dotN l0 l1 i j k) = some (dotN l0 l1 i j l0.length)
 | 0, k, ek => by
  have ej : k = l0.length := by omega
  subst ej
  rfl
 | m + 1, k, ek => by
  have hk : k < l0.length := by omega
  have b0 := dotN_bd T0 T1 e hi hj k (by omega)
  have b1 := prodG_bd T0 T1 e hi hj hk
  have hl := T0.len
  rw [timesG, if_pos (by rw [tab_rowlen T0 hi, tab_rowlen T1 (show k < l1.length by omega)]; omega), show rd (rd_L1 l0 (i : Int)) (k : Int) * rd (rd_L1 l1 (k : Int)) (j : Int) = atG l0 i k * atG l1 k j from rfl, w64 (x := atG l0 i k * atG l1 k j) (by omega) (by omega), w64 (by omega) (by omega)]
  exact timesG_eq T0 T1 e hi hj m (k + 1) (by omega)
theorem product_ev {l0 l1 : List (List Int)} (T0 : Tab l0) (T1 : Tab l1) (e : l1.length = l0.length) : Ev (fun k => impl_product.f k l0 l1) (timesT l0 l1) := by
 have hl := T0.len
 unfold impl_product.f
 simp only [if_pos (show l0.length ≤ 4611686018427387903 by omega)]
 refine square_ev _ (fun i j => dotN l0 l1 i j l0.length) l0.length (by omega) (fun i j hi hj => ?_)
 exact timesG_eq T0 T1 e hi hj l0.length 0 (by omega)
theorem implMultiplyTables_ev (l0 l1 : List (List Int)) (u0 : l0.length ≤ 1048576) (v0 : totSS l0 ≤ 1048576) (u1 : l1.length ≤ 1048576) (v1 : totSS l1 ≤ 1048576) : Ev (fun k => impl_MultiplyTables.f k l0 l1) (muR l0 l1) := by
 unfold impl_MultiplyTables.f muR
 simp only [areSquares_eq l0 l1 u0 v0 u1 v1, Option.bind_some]
 by_cases h0 : squareB l0 = true
 · by_cases h1 : squareB l1 = true
   · by_cases e : (l0.length : Int) = (l1.length : Int)
     · obtain ⟨T0, n0⟩ := square_tab h0
       obtain ⟨T1, n1⟩ := square_tab h1
       simp only [if_pos h0, if_pos h1, if_pos e, show ((l0.length : Int) == (l1.length : Int)) = true from beq_iff_eq.mpr e, if_true]
       refine Ev.bind (product_ev T0 T1 (by omega)) ?_
       unfold timesT
       simp only [checkedG_eq _ T0.len]
       exact Ev.now _
     · simp only [if_pos h0, if_pos h1, if_neg e, show ((l0.length : Int) == (l1.length : Int)) = false from beq_eq_false_iff_ne.mpr e, Bool.false_eq_true, if_false]
       exact Ev.now _
   · simp only [if_pos h0, if_neg h1, Bool.false_eq_true, if_false]
     exact Ev.now _
 · simp only [if_neg h0, Bool.false_eq_true, if_false]
   exact Ev.now _
end Go.Proofs.Ytkhpojcplejdjaa.A

namespace Go.Proofs.Ytkhpojcplejdjaa.A
open Go.RowKit Go.Proofs.YtkhpojcplejdjaaW.PrintWords Go.Proofs.YtkhpojcplejdjaaW.PrintLast Go.Proofs.YtkhpojcplejdjaaW.PrintMore
set_option linter.unusedVariables false
set_option linter.unusedSimpArgs false
/-! finite sums; tables with equal sums -/
def sN (n : Nat) (f : Nat → Int) : Int := ((List.range n).map f).sum
theorem sN_zero (f : Nat → Int) : sN 0 f = 0 := by simp [sN]
theorem sN_succ (n : Nat) (f : Nat → Int) : sN (n + 1) f = sN n f + f n := by
 unfold sN
 rw [List.range_succ, List.map_append, List.sum_append]
 simp
theorem sN_congr {n : Nat} {f g : Nat → Int} (h : ∀ i, i < n → f i = g i) : sN n f = sN n g := by
 unfold sN
 rw [List.map_congr_left fun i hi => h i (List.mem_range.1 hi)]
theorem sN_none (n : Nat) : sN n (fun _ => 0) = 0 := by
 induction n with
 | zero => exact sN_zero _
 | succ n ih => rw [sN_succ, ih]; omega
theorem sN_add (n : Nat) (f g : Nat → Int) : sN n (fun i => f i + g i) = sN n f + sN n g := by
 induction n with
 | zero => simp [sN_zero]
 | succ n ih => rw [sN_succ, sN_succ, sN_succ, ih]; omega
theorem sN_mul (n : Nat) (c : Int) (f : Nat → Int) : sN n (fun i => c * f i) = c * sN n f := by
 induction n with
 | zero => simp [sN_zero]
 | succ n ih => rw [sN_succ, sN_succ, ih, Int.mul_add]
theorem sN_comm (n m : Nat) (f : Nat → Nat → Int) : sN n (fun i => sN m (fun j => f i j)) = sN m (fun j => sN n (fun i => f i j)) := by
 induction n with
 | zero => rw [sN_zero, sN_congr (g := fun _ => 0) (fun j _ => sN_zero _), sN_none]
 | succ n ih => rw [sN_succ, ih, ← sN_add, sN_congr (fun j _ => sN_succ n (fun i => f i j))]
theorem sN_one {n a : Nat} (h : a < n) (v : Int) : sN n (fun b => if b = a then v else 0) = v := by
 induction n with
 | zero => omega
 | succ n ih =>
  rw [sN_succ]
  by_cases e : n = a
  · subst e
    rw [sN_congr (g := fun _ => 0) (fun i hi => if_neg (by omega)), sN_none, if_pos rfl]
    omega
  · rw [ih (by omega), if_neg e]
    omega
theorem sN_two {n a c : Nat} (h : a < n) (h' : c < n) (e : a ≠ c) (v w : Int) : sN n (fun b => if b = a then v else if b = c then w else 0) = v + w := by
 rw [← sN_one h v, ← sN_one h' w, ← sN_add, sN_one h v, sN_one h' w]
 refine sN_congr fun b _ => ?_
 by_cases e1 : b = a
 · rw [if_pos e1, if_pos e1, if_neg (by omega)]
   omega
 · rw [if_neg e1, if_neg e1]
   omega
theorem sN_bd {n : Nat} {f : Nat → Int} {m : Int} (h : ∀ i, i < n → 0 ≤ f i ∧ f i ≤ m) : 0 ≤ sN n f ∧ sN n f ≤ m * (n : Int) := by
 induction n with
 | zero => rw [sN_zero]; omega
 | succ n ih =>
  have := ih (fun i hi => h i (by omega))
  have := h n (by omega)
  rw [sN_succ, Int.natCast_succ, Int.mul_add]
  omega
def EqT (n : Nat) (G : Nat → Nat → Int) (s : Int) : Prop := ∀ i, i < n → sN n (G i) = s ∧ sN n (fun k => G k i) = s
theorem tabG_row_sum {n : Nat} (G : Nat → Nat → Int) {i : Nat} (h : i < n) : ((tabG n G).getD i []).sum = sN n (G i) := by
 have e : i < (tabG n G).length := by rw [tabG_length]; exact h
 rw [List.getD_eq_getElem?_getD, List.getElem?_eq_getElem e, Option.getD_some, tabG_get]
 rfl
theorem tabG_col_sum {n : Nat} (G : Nat → Nat → Int) {i : Nat} (h : i < n) : ((tabG n G).map fun x => rd x (i : Int)).sum = sN n (fun k => G k i) := by
 unfold tabG sN
 rw [List.map_map]
 refine congrArg List.sum (List.map_congr_left fun k _ => ?_)
 exact rowG_at (G k) h
theorem tabG_all {n : Nat} (G : Nat → Nat → Int) (s : Int) : (List.range' 0 n).all (okI (tabG n G) s) = true ↔ EqT n G s := by
 rw [List.all_eq_true]
 constructor
 · intro h i hi
   have k := h i (by rw [List.mem_range'_1]; omega)
   unfold okI at k
   rw [tabG_row_sum G hi, tabG_col_sum G hi, Bool.and_eq_true, decide_eq_true_eq, decide_eq_true_eq] at k
   exact k
 · intro h i hi
   rw [List.mem_range'_1] at hi
   have k := h i (by omega)
   unfold okI
   rw [tabG_row_sum G (by omega), tabG_col_sum G (by omega), Bool.and_eq_true, decide_eq_true_eq, decide_eq_true_eq]
   exact k
theorem equal_of {n : Nat} {G : Nat → Nat → Int} {s : Int} (hq : squareB (tabG n G) = true) (h : EqT n G s) : equalR (tabG n G) = (s, true) := by
 have h1 := (square_tab hq).2
 rw [tabG_length] at h1
 unfold equalR
 have e : sum0 (tabG n G) = s := by
  unfold sum0
  rw [tabG_row_sum G (by omega)]
  exact (h 0 (by omega)).1
 rw [if_pos hq, e, tabG_length, if_pos ((tabG_all G s).2 h)]
theorem tab_self {l : List (List Int)} (h : squareB l = true) : tabG l.length (atG l) = l := tabG_self fun x hx => ((square_tab h).1.row x hx).1
theorem of_equal {l : List (List Int)} {s : Int} (h : equalR l = (s, true)) : squareB l = true ∧ EqT l.length (atG l) s := by
 unfold equalR at h
 split at h
 · next hq =>
   split at h
   · next ha =>
     refine ⟨hq, (tabG_all (atG l) s).1 ?_⟩
     have e : sum0 l = s := by simpa using h
     rw [tab_self hq, ← e]
     exact ha
   · simp at h
 · simp at h
theorem equal_bd {l : List (List Int)} {s : Int} (h : equalR l = (s, true)) : 0 ≤ s ∧ s ≤ 6000000 := by
 obtain ⟨hq, he⟩ := of_equal h
 obtain ⟨hT, h1⟩ := square_tab hq
 have hl := hT.len
 have k := (he 0 (by omega)).1
 have b := sN_bd (n := l.length) (f := atG l 0) (m := 1000000) fun j hj => atG_bd hT (by omega) hj
 omega
theorem checkR_ok {u p : List (List Int)} (h : checkR u = (p, true)) : squareB u = true ∧ p = u := by
 unfold checkR at h
 split at h
 · next hq =>
   refine ⟨hq, ?_⟩
   simpa using h.symm
 · simp at h
theorem dot_sum (l0 l1 : List (List Int)) (i j k : Nat) : dotN l0 l1 i j k = sN k (fun q => atG l0 i q * atG l1 q j) := by
 induction k with
 | zero => rw [sN_zero]; rfl
 | succ k ih => rw [sN_succ, ← ih]; rfl
theorem ad_ok {t u p : List (List Int)} (h : adR t u = (p, true)) : u.length = t.length ∧ squareB (tabG t.length fun i j => atG t i j + atG u i j) = true ∧ p = tabG t.length fun i j => atG t i j + atG u i j := by
 unfold adR at h
 split at h
 · split at h
   · split at h
     · next e =>
       obtain ⟨a, b⟩ := checkR_ok h
       exact ⟨by omega, a, b⟩
     · simp at h
   · simp at h
 · simp at h
theorem mu_ok {t u p : List (List Int)} (h : muR t u = (p, true)) : u.length = t.length ∧ squareB (timesT t u) = true ∧ p = timesT t u := by
 unfold muR at h
 split at h
 · split at h
   · split at h
     · next e =>
       obtain ⟨a, b⟩ := checkR_ok h
       exact ⟨by omega, a, b⟩
     · simp at h
   · simp at h
 · simp at h
theorem ad_sum {t u p : List (List Int)} {x y : Int} (h : adR t u = (p, true)) (hx : equalR t = (x, true)) (hy : equalR u = (y, true)) : equalR p = (x + y, true) := by
 obtain ⟨e, hq, rfl⟩ := ad_ok h
 have a := (of_equal hx).2
 have b := (of_equal hy).2
 rw [e] at b
 refine equal_of hq fun i hi => ⟨?_, ?_⟩
 · rw [sN_add, (a i hi).1, (b i hi).1]
 · rw [sN_add, (a i hi).2, (b i hi).2]
theorem mu_sum {t u p : List (List Int)} {x y : Int} (h : muR t u = (p, true)) (hx : equalR t = (x, true)) (hy : equalR u = (y, true)) : equalR p = (x * y, true) := by
 obtain ⟨e, hq, rfl⟩ := mu_ok h
 have a := (of_equal hx).2
 have b := (of_equal hy).2
 rw [e] at b
 unfold timesT at hq ⊢
 refine equal_of hq fun i hi => ⟨?_, ?_⟩
 · rw [sN_congr (fun j _ => dot_sum t u i j t.length), sN_comm, sN_congr (g := fun q => y * atG t i q) (fun q hq => by rw [sN_mul, (b q hq).1, Int.mul_comm]), sN_mul, (a i hi).1, Int.mul_comm]
 · rw [sN_congr (fun j _ => dot_sum t u j i t.length), sN_comm, sN_congr (g := fun q => x * atG u q i) (fun q hq => by
    rw [sN_congr (fun j _ => Int.mul_comm (atG t j q) (atG u q i)), sN_mul, (a q hq).2, Int.mul_comm]), sN_mul, (b i hi).2]
theorem gtG_symm (i j : Nat) (s k : Int) (a b : Nat) : gtG i j s k a b = gtG i j s k b a := by
 unfold gtG
 repeat' split
 all_goals first | rfl | omega
theorem gtG_sum {n i j : Nat} (hij : i < j) (hj : j < n) (s k : Int) {a : Nat} (ha : a < n) : sN n (gtG i j s k a) = s := by
 by_cases e1 : a = i
 · have e : ∀ b, b < n → gtG i j s k a b = if b = a then s - k else if b = j then k else 0 := by
    intro b _
    unfold gtG
    repeat' split
    all_goals first | rfl | omega
   rw [sN_congr e, sN_two ha hj (by omega)]
   omega
 · by_cases e2 : a = j
   · have e : ∀ b, b < n → gtG i j s k a b = if b = a then s - k else if b = i then k else 0 := by
      intro b _
      unfold gtG
      repeat' split
      all_goals first | rfl | omega
     rw [sN_congr e, sN_two ha (show i < n by omega) (by omega)]
     omega
   · have e : ∀ b, b < n → gtG i j s k a b = if b = a then s else 0 := by
      intro b _
      unfold gtG
      repeat' split
      all_goals first | rfl | omega
     rw [sN_congr e, sN_one ha]
theorem squareG {n : Nat} (h1 : 1 ≤ n) (h6 : n ≤ 6) {G : Nat → Nat → Int} (h : ∀ i j, i < n → j < n → 0 ≤ G i j ∧ G i j ≤ 1000000) : squareB (tabG n G) = true := by
 unfold squareB
 rw [Bool.and_eq_true, decide_eq_true_eq, List.all_eq_true, tabG_length]
 refine ⟨by omega, fun x hx => ?_⟩
 unfold tabG at hx
 obtain ⟨i, hi, rfl⟩ := List.mem_map.1 hx
 unfold rowB inR
 rw [Bool.and_eq_true, decide_eq_true_eq, List.all_eq_true, List.length_map, List.length_range]
 refine ⟨rfl, fun y hy => ?_⟩
 obtain ⟨j, hj, rfl⟩ := List.mem_map.1 hy
 have := h i j (List.mem_range.1 hi) (List.mem_range.1 hj)
 simp [this]
theorem gt_sum {n i j s k : Int} {p : List (List Int)} (h : gtR n i j s k = (p, true)) : equalR p = (s, true) := by
 unfold gtR at h
 split at h
 · split at h
   · split at h
     · split at h
       · split at h
         · next hn hj hi hs hk =>
           have e : p = tabG n.toNat (gtG i.toNat j.toNat s k) := by simpa using h.symm
           subst e
           refine equal_of (squareG (by omega) (by omega) fun a b _ _ => ?_) fun a ha => ⟨gtG_sum (by omega) (by omega) s k ha, ?_⟩
           · unfold gtG
             repeat' split
             all_goals omega
           · rw [sN_congr (fun b _ => gtG_symm i.toNat j.toNat s k b a)]
             exact gtG_sum (by omega) (by omega) s k ha
         · simp at h
       · simp at h
     · simp at h
   · simp at h
 · simp at h
end Go.Proofs.Ytkhpojcplejdjaa.A

namespace Go.Proofs.Ytkhpojcplejdjaa.A
open Go.RowKit Go.Proofs.YtkhpojcplejdjaaW.PrintWords Go.Proofs.YtkhpojcplejdjaaW.PrintLast Go.Proofs.YtkhpojcplejdjaaW.PrintMore
set_option linter.unusedVariables false
set_option linter.unusedSimpArgs false
/-! the words on rows that the laws of tables share -/
theorem ySame_l (xs ys : List Int) (hx : xs.length ≤ 9223372036854775807) (hl : xs.length = ys.length) : ∀ (n i : Nat), i + n = xs.length → Ev (fun k => laws_ySame.l0 k xs ys (xs.length : Int) (i : Int)) (decide (xs.drop i = ys.drop i))
 | 0, i, h => by
  refine Ev.succ ?_
  simp only [laws_ySame.l0, if_neg (show ¬ (i : Int) < (xs.length : Int) by omega)]
  rw [List.drop_eq_nil_of_le (by omega), List.drop_eq_nil_of_le (by omega), decide_eq_true rfl]
  exact Ev.now _
 | n + 1, i, h => by
  have hi : i < xs.length := by omega
  have hj : i < ys.length := by omega
  refine Ev.succ ?_
  simp only [laws_ySame.l0, if_pos (show (i : Int) < (xs.length : Int) by omega), if_pos (show (0 : Int) ≤ (i : Int) by omega), if_pos (show (i : Int) < (ys.length : Int) by omega), rdn hi, rdn hj, wsucc hi hx]
  rw [List.drop_eq_getElem_cons hi, List.drop_eq_getElem_cons hj]
  by_cases c : xs[i] = ys[i]
  · simp only [if_pos c, c, List.cons.injEq, true_and]
    exact ySame_l xs ys hx hl n (i + 1) (by omega)
  · simp only [if_neg c, List.cons.injEq, c, false_and, decide_false]
    exact Ev.now _
theorem ySame_ev (xs ys : List Int) (hx : xs.length ≤ 9223372036854775807) : Ev (fun k => laws_ySame.f k xs ys) (decide (xs = ys)) := by
 unfold laws_ySame.f
 by_cases h : (xs.length : Int) = (ys.length : Int)
 · simp only [if_pos h]
   exact ySame_l xs ys hx (by omega) xs.length 0 (by omega)
 · simp only [if_neg h]
   rw [decide_eq_false (fun e => h (by rw [e]))]
   exact Ev.now _
theorem ySame_self (xs : List Int) (hx : xs.length ≤ 9223372036854775807) : Ev (fun k => laws_ySame.f k xs xs) true := by
 have h := ySame_ev xs xs hx
 rw [decide_eq_true rfl] at h
 exact h
theorem yRows_l (l : List (List Int)) (hl : l.length ≤ 9223372036854775807) (hx : ∀ x ∈ l, x.length ≤ 9223372036854775807) : ∀ (d i : Nat), i + d = l.length → Ev (fun k => laws_yRows.l0 k l l (l.length : Int) (i : Int)) true
 | 0, i, e => by
  refine Ev.succ ?_
  simp only [laws_yRows.l0, if_neg (show ¬ (i : Int) < (l.length : Int) by omega)]
  exact Ev.now _
 | d + 1, i, e => by
  have hi : i < l.length := by omega
  refine Ev.succ ?_
  simp only [laws_yRows.l0, if_pos (show (i : Int) < (l.length : Int) by omega), if_pos (Int.natCast_nonneg i), rd_L1n hi, wsucc hi (by omega)]
  refine Ev.bind (ySame_self l[i] (hx _ (List.getElem_mem hi))) ?_
  simp only [if_true]
  exact yRows_l l hl hx d (i + 1) (by omega)
theorem yRows_self (l : List (List Int)) (hl : l.length ≤ 1000) (ht : totSS l ≤ 1000) : Ev (fun k => laws_yRows.f k l l) true := by
 unfold laws_yRows.f
 simp only [if_true]
 exact yRows_l l (by omega) (fun x hx => by have := len_tot hx; omega) l.length 0 (by omega)
end Go.Proofs.Ytkhpojcplejdjaa.A

/- The law FnTablesMultiplied holds of the printed functions, for every argument: numbers and lists alone. -/
namespace Go.Proofs.Ytkhpojcplejdjaa.Pure
open Go.RowKit Go.Proofs.Ytkhpojcplejdjaa.A Go.Proofs.YtkhpojcplejdjaaW.PrintWords Go.Proofs.YtkhpojcplejdjaaW.PrintLast
set_option linter.unusedVariables false
set_option linter.unusedSimpArgs false
theorem tm_j5 (s : Int) (u : List (List Int)) (b : Bool) (h : b = true → equalR u = (s, true)) (hl : u.length ≤ 1000) (ht : totSS u ≤ 1000) : Ev (fun k => laws_FnTablesMultiplied.j5 k s u b false) true := by
 refine Ev.succ ?_
 simp only [laws_FnTablesMultiplied.j5, Bool.false_eq_true, if_false]
 refine Ev.ite' (fun c => ?_) (fun _ => Ev.now _)
 refine Ev.bind (implEqualSum_ev u (by omega) (by omega)) ?_
 simp only [h c, if_true, beq_self_eq_true]
 exact Ev.now _
theorem tm_j3 (l1 : List Int) (b1 : Bytes l1) : Ev (fun k => laws_FnTablesMultiplied.j3 k l1) true := by
 obtain ⟨v, b, e1, hv⟩ := drawScale_ev l1 b1
 obtain ⟨n, i, j, s, c, e2⟩ := drawGift_ev l1 b1
 have k1 := hv.tot
 have k2 := scR_bd v b
 have k3 := gtR_bd n i j s c
 refine Ev.succ ?_
 simp only [laws_FnTablesMultiplied.j3]
 refine Ev.bind e1 (Ev.bind (implScaleTable_ev v b k1.1 k1.2) (Ev.bind (specScaleTable_ev v b k1.1 k1.2) ?_))
 simp only [bne_self_eq_false, Bool.false_eq_true, if_false]
 refine Ev.bind (yRows_self _ k2.2 k2.1) ?_
 simp only [Bool.not_true]
 refine Ev.succ ?_
 simp only [laws_FnTablesMultiplied.j4, Bool.false_eq_true, if_false, e2, Option.bind_some]
 refine Ev.bind (implGiftTable_ev n i j s c) (Ev.bind (specGiftTable_ev n i j s c) ?_)
 simp only [bne_self_eq_false, Bool.false_eq_true, if_false]
 refine Ev.bind (yRows_self _ k3.2 k3.1) ?_
 simp only [Bool.not_true]
 exact tm_j5 s _ _ (fun h => gt_sum (p := (gtR n i j s c).1) (by rw [← h])) k3.2 k3.1
theorem tm_j2 (l1 : List Int) (b1 : Bytes l1) (t u : List (List Int)) (x y : Int) (hx : equalR t = (x, true)) (hy : equalR u = (y, true)) : Ev (fun k => laws_FnTablesMultiplied.j2 k l1 (adR t u).1 (adR t u).2 x y) true := by
 have k := adR_bd t u
 have bx := equal_bd hx
 have bY := equal_bd hy
 refine Ev.succ ?_
 simp only [laws_FnTablesMultiplied.j2]
 refine Ev.ite' (fun c => ?_) (fun _ => tm_j3 l1 b1)
 have hs := ad_sum (p := (adR t u).1) (by rw [← c]) hx hy
 refine Ev.bind (implEqualSum_ev _ (by omega) (by omega)) ?_
 simp only [hs, if_true, w64 (x := x + y) (by omega) (by omega)]
 exact tm_j3 l1 b1
theorem tm_j1 (l1 : List Int) (b1 : Bytes l1) (t u : List (List Int)) (x y : Int) (q : Bool) (h : q = true → equalR t = (x, true) ∧ equalR u = (y, true)) : Ev (fun k => laws_FnTablesMultiplied.j1 k l1 (muR t u).1 (muR t u).2 (adR t u).1 (adR t u).2 x y q) true := by
 have k := muR_bd t u
 refine Ev.succ ?_
 simp only [laws_FnTablesMultiplied.j1]
 refine Ev.ite' (fun c => ?_) (fun _ => tm_j3 l1 b1)
 obtain ⟨hx, hy⟩ := h c
 have bx := equal_bd hx
 have bY := equal_bd hy
 have m0 : 0 ≤ x * y := Int.mul_nonneg bx.1 bY.1
 have m1 : x * y ≤ 6000000 * 6000000 := Int.mul_le_mul bx.2 bY.2 bY.1 (by omega)
 refine Ev.ite' (fun c2 => ?_) (fun _ => tm_j2 l1 b1 t u x y hx hy)
 have hs := mu_sum (p := (muR t u).1) (by rw [← c2]) hx hy
 refine Ev.bind (implEqualSum_ev _ (by omega) (by omega)) ?_
 simp only [hs, if_true, w64 (x := x * y) (by omega) (by omega)]
 exact tm_j2 l1 b1 t u x y hx hy
theorem FnTablesMultiplied : laws_FnTablesMultiplied.Pure := by
 intro l0 l1 _ g0 x0 _ g1 x1
 apply Ev.get
 unfold laws_FnTablesMultiplied.f
 rcases big_cut l0 l1 g0 x0 x1 with hb | ⟨hb, b0, b1⟩
 · simp only [hb, Option.bind_some, if_true]
   exact Ev.now _
 · simp only [hb, Option.bind_some, Bool.false_eq_true, if_false]
   obtain ⟨t, u, e, ht, hu⟩ := drawMul_ev l0 b0
   have k1 := ht.tot
   have k2 := hu.tot
   have k3 := muR_bd t u
   have k4 := adR_bd t u
   refine Ev.bind e (Ev.bind (implMultiplyTables_ev t u k1.1 k1.2 k2.1 k2.2) (Ev.bind (specMultiplyTables_ev t u k1.1 k1.2 k2.1 k2.2) (Ev.bind (implAddTables_ev t u k1.1 k1.2 k2.1 k2.2) (Ev.bind (specAddTables_ev t u k1.1 k1.2 k2.1 k2.2) ?_))))
   simp only [bne_self_eq_false, Bool.false_eq_true, if_false]
   refine Ev.bind (yRows_self _ k3.2 k3.1) ?_
   simp only [if_true]
   refine Ev.bind (yRows_self _ k4.2 k4.1) ?_
   simp only [Bool.not_true]
   refine Ev.succ ?_
   simp only [laws_FnTablesMultiplied.j0, Bool.false_eq_true, if_false]
   refine Ev.bind (implEqualSum_ev t k1.1 k1.2) (Ev.bind (implEqualSum_ev u k2.1 k2.2) ?_)
   by_cases c1 : (equalR t).2 = true
   · simp only [if_pos c1]
     exact tm_j1 l1 b1 t u _ _ _ (fun c2 => ⟨by rw [← c1], by rw [← c2]⟩)
   · simp only [if_neg c1]
     exact tm_j1 l1 b1 t u _ _ false (fun h => by cases h)
end Go.Proofs.Ytkhpojcplejdjaa.Pure
