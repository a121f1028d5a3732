/- What the law FnGiftPathsExist reaches, part 6: Lean functions with the same answers as the Go functions, the proofs that the Go code comes to these answers, and lemmas about them; no condition beyond those that each theorem names. -/
import Derived.Test.YtnlimjejllakoaaCFnGiftPathsExistw1
import Derived.Test.YtnlimjejllakoaaCFnGiftPathsExist1
import Derived.Test.YtnlimjejllakoaaCFnGiftPathsExist2
import Derived.Test.YtnlimjejllakoaaCFnGiftPathsExist3
import Derived.Test.YtnlimjejllakoaaCFnGiftPathsExist4
import Derived.Test.YtnlimjejllakoaaCFnGiftPathsExist5
set_option linter.unusedVariables false
set_option linter.unusedSimpArgs false
set_option maxHeartbeats 8000000
set_option maxRecDepth 100000
namespace Go.Proofs.Ytnlimjejllakoaa.A
open Go.RowKit Go.Proofs.YtnlimjejllakoaaW.PrintWords Go.Proofs.YtnlimjejllakoaaW.PrintLast Go.Proofs.YtnlimjejllakoaaW.PrintMore
attribute [local go_sem] max2_int min2_int max_two min_two max_three min_three max_four min_four
def toG (L : List (Nat × Nat × Int)) : List S39 := L.map fun g => ⟨(g.1 : Int), (g.2.1 : Int), g.2.2⟩
theorem implNext1 {x t : List Int} {i j : Nat} (u : Bool) (acc : List S39) (r : List S39) (hl : x.length = t.length) (hn : x.length ≤ 1000) (h : Nx x t i j) (hr : Ev (fun K => impl_path.l2 K x t u acc (j : Int) (j : Int)) r) : ∀ (d k : Nat), k + d = j → Ev (fun K => impl_path.l1 K x t u acc (k : Int)) r
 | 0, k, e => by
  have hk : k = j := by omega
  have := h.hj
  have := h.jlt
  subst hk; refine Ev.succ ?_
  simp only [impl_path.l1, if_pos (show (0 : Int) ≤ (k : Int) by omega), if_pos (show (k : Int) < (x.length : Int) by omega), if_pos (show (k : Int) < (t.length : Int) by omega), if_neg (show ¬ rd x (k : Int) ≥ rd t (k : Int) by omega)]
  exact hr
 | d + 1, k, e => by
  have := h.hj
  have := h.bef k (by omega)
  refine Ev.succ ?_
  simp only [impl_path.l1, if_pos (show (0 : Int) ≤ (k : Int) by omega), if_pos (show (k : Int) < (x.length : Int) by omega), if_pos (show (k : Int) < (t.length : Int) by omega), if_pos (show rd x (k : Int) ≥ rd t (k : Int) by omega), wsucc (show k < x.length by omega) (by omega)]
  exact implNext1 u acc r hl hn h hr d (k + 1) (by omega)
theorem implNext2 {x t : List Int} {i j : Nat} (u : Bool) (acc : List S39) (r : List S39) (hl : x.length = t.length) (hn : x.length ≤ 1000) (h : Nx x t i j) (hr : Ev (fun K => impl_path.l2 K x t u acc (j : Int) (i : Int)) r) : ∀ (d k : Nat), i + d = k → k ≤ j → Ev (fun K => impl_path.l2 K x t u acc (j : Int) (k : Int)) r
 | 0, k, e, _ => by
  have hk : k = i := by omega
  subst hk; exact hr
 | d + 1, k, e, hkj => by
  have := h.hj
  have hle : rd x (k : Int) ≤ rd t (k : Int) := by
   rcases Nat.lt_or_ge k j with c | c
   · exact h.btw k (by omega) c
   · have : k = j := by omega
     subst this; have := h.jlt
     omega
  refine Ev.succ ?_
  simp only [impl_path.l2, if_pos (show (0 : Int) ≤ (k : Int) by omega), if_pos (show (k : Int) < (x.length : Int) by omega), if_pos (show (k : Int) < (t.length : Int) by omega), if_pos hle, w64 (x := (k : Int) - 1) (by omega) (by omega)]
  have := implNext2 u acc r hl hn h hr d (k - 1) (by omega) (by omega)
  rw [show (((k - 1 : Nat) : Int)) = (k : Int) - 1 by omega] at this
  exact this
theorem specNext1 {x t : List Int} {i j : Nat} (hl : x.length = t.length) (hn : x.length ≤ 1000) (h : Nx x t i j) : ∀ (d k : Nat), k + d = j → Ev (fun K => spec_giNext.l0 K t x (k : Int)) ((i : Int), (j : Int), 1)
 | 0, k, e => by
  have hk : k = j := by omega
  have := h.hj
  have := h.jlt
  have h3 := h.lt
  subst hk; refine Ev.succ ?_
  simp only [spec_giNext.l0, if_pos (show (0 : Int) ≤ (k : Int) by omega), if_pos (show (k : Int) < (x.length : Int) by omega), if_pos (show (k : Int) < (t.length : Int) by omega), if_neg (show ¬ rd x (k : Int) ≥ rd t (k : Int) by omega), w64 (x := (k : Int) - 1) (by omega) (by omega)]
  have key : ∀ (d m : Nat), i + d = m → m < k → Ev (fun K => spec_giNext.l1 K t x (k : Int) (m : Int)) ((i : Int), (k : Int), 1) := by
   intro d
   induction d with
   | zero =>
    intro m e1 e2
    have hm : m = i := by omega
    subst hm; have := h.igt
    refine Ev.succ ?_
    simp only [spec_giNext.l1, if_pos (show (0 : Int) ≤ (m : Int) by omega), if_pos (show (m : Int) < (x.length : Int) by omega), if_pos (show (m : Int) < (t.length : Int) by omega), if_neg (show ¬ rd x (m : Int) ≤ rd t (m : Int) by omega)]
    exact Ev.now _
   | succ d ih =>
    intro m e1 e2
    have := h.btw m (by omega) e2
    refine Ev.succ ?_
    simp only [spec_giNext.l1, if_pos (show (0 : Int) ≤ (m : Int) by omega), if_pos (show (m : Int) < (x.length : Int) by omega), if_pos (show (m : Int) < (t.length : Int) by omega), if_pos this, w64 (x := (m : Int) - 1) (by omega) (by omega)]
    have := ih (m - 1) (by omega) (by omega)
    rw [show (((m - 1 : Nat) : Int)) = (m : Int) - 1 by omega] at this
    exact this
  have := key (k - 1 - i) (k - 1) (by omega) (by omega)
  rw [show (((k - 1 : Nat) : Int)) = (k : Int) - 1 by omega] at this
  exact this
 | d + 1, k, e => by
  have := h.hj
  have := h.bef k (by omega)
  refine Ev.succ ?_
  simp only [spec_giNext.l0, if_pos (show (0 : Int) ≤ (k : Int) by omega), if_pos (show (k : Int) < (x.length : Int) by omega), if_pos (show (k : Int) < (t.length : Int) by omega), if_pos (show rd x (k : Int) ≥ rd t (k : Int) by omega), wsucc (show k < x.length by omega) (by omega)]
  exact specNext1 hl hn h d (k + 1) (by omega)
theorem gv_done {x t : List Int} {i j : Nat} {a : Int} (hl : x.length = t.length) (hg : goodL x = true) (htg : goodL t = true) (hx : Desc x) (ht : Desc t) (g : Gv x t i j a) : (x.set (i : Int).toNat (wrap64 (rd x (i : Int) - a))).set (j : Int).toNat (wrap64 (rd x (j : Int) + a)) = giveL x (i : Int) (j : Int) a ∧ descL (giveL x (i : Int) (j : Int) a) = giveL x (i : Int) (j : Int) a := by
 have h1 := g.lt
 have h2 := g.hj
 have h3 := g.ai
 have h4 := g.aj
 have hpos := g.pos
 have b1 := rd_good htg (i := (i : Int)) (by omega) (by omega)
 have b2 := rd_good htg (i := (j : Int)) (by omega) (by omega)
 have b3 := rd_good hg (i := (i : Int)) (by omega) (by omega)
 have b4 := rd_good hg (i := (j : Int)) (by omega) (by omega)
 refine ⟨?_, descL_of_desc (gv_desc hl hx ht g)⟩
 rw [w64 (x := rd x (i : Int) - a) (by omega) (by omega), w64 (x := rd x (j : Int) + a) (by omega) (by omega)]
 rfl
theorem implPath_gp (u : Bool) {t : List Int} (ht : Desc t) (htg : goodL t = true) {x : List Int} {L : List (Nat × Nat × Int)} (h : GP u t x L) : ∀ acc : List S39, Dom x t → Desc x → goodL x = true → acc.length + L.length ≤ 1000000 → Ev (fun k => impl_path.l0 k x t u acc) (acc ++ toG L) := by
 induction h with
 | nil =>
  intro acc hd hx hg hb
  refine Ev.succ ?_
  simp only [impl_path.l0]
  have e := slEqual_ev t t (by have := (goodL_iff t).1 htg; omega)
  rw [zba rfl] at e
  refine Ev.bind e ?_
  simp only [if_true, toG, zav, List.append_nil]
  exact Ev.now _
 | @cons x i j L hne hn h ih =>
  intro acc hd hx hg hb
  have g := nx_gv u hn
  have hlen := (goodL_iff x).1 hg
  have hl := hd.1
  rw [List.length_cons] at hb
  obtain ⟨e1, e2⟩ := gv_done hl hg htg hx ht g
  have h1 := hn.lt
  have h2 := hn.hj
  have ih' := ih (acc ++ [⟨(i : Int), (j : Int), gvA u x t i j⟩]) (gv_dom hd g) (gv_desc hl hx ht g) (gv_good hl hg htg g) (by rw [List.length_append, List.length_singleton]; omega)
  have hgv := given_eq x (i : Int) (j : Int) (gvA u x t i j) (by omega) (by omega) (by omega) (by omega)
  rw [e1] at hgv
  have hrk := ranking_eq (good_sm (gv_good hl hg htg g))
  rw [e2] at hrk
  refine Ev.succ ?_
  simp only [impl_path.l0]
  have e := slEqual_ev x t (by omega)
  rw [zbj hne] at e
  refine Ev.bind e ?_
  simp only [zbo, if_false]
  refine implNext1 u acc _ hl (by omega) hn (implNext2 u acc _ hl (by omega) hn (Ev.succ ?_) (j - i) j (by omega) (zch _)) j 0 (by omega)
  have b1 := rd_good htg (i := (i : Int)) (by omega) (by omega)
  have b2 := rd_good htg (i := (j : Int)) (by omega) (by omega)
  have b3 := rd_good hg (i := (i : Int)) (by omega) (by omega)
  have b4 := rd_good hg (i := (j : Int)) (by omega) (by omega)
  have higt := hn.igt
  simp only [impl_path.l2, if_pos (show (0 : Int) ≤ (i : Int) by omega), if_pos (show (0 : Int) ≤ (j : Int) by omega), if_pos (show (i : Int) < (x.length : Int) by omega), if_pos (show (i : Int) < (t.length : Int) by omega), if_pos (show (j : Int) < (x.length : Int) by omega), if_pos (show (j : Int) < (t.length : Int) by omega), if_neg (show ¬ rd x (i : Int) ≤ rd t (i : Int) by omega), if_pos (show acc.length < 5864062014805 by omega)]
  have er : acc ++ toG ((i, j, gvA u x t i j) :: L) = (acc ++ [⟨(i : Int), (j : Int), gvA u x t i j⟩]) ++ toG L := by simp [toG]
  rw [er]
  cases u with
  | true =>
   have ea : gvA true x t i j = 1 := rfl
   rw [ea] at hgv hrk ih' ⊢
   simp only [if_true, hgv, hrk, zbd]
   exact ih'
  | false =>
   have ea : mn (wrap64 (rd x (i : Int) - rd t (i : Int))) (wrap64 (rd t (j : Int) - rd x (j : Int))) = gvA false x t i j := by
    rw [w64 (x := rd x (i : Int) - rd t (i : Int)) (by omega) (by omega), w64 (x := rd t (j : Int) - rd x (j : Int)) (by omega) (by omega), mn_eq]
    rfl
   simp only [zbo, if_false, ea, hgv, hrk, zbd]
   exact ih'
theorem specPath_gp (u : Bool) {t : List Int} (ht : Desc t) (htg : goodL t = true) {x : List Int} {L : List (Nat × Nat × Int)} (h : GP u t x L) : ∀ acc : List S39, Dom x t → Desc x → goodL x = true → acc.length + L.length ≤ 1000000 → Ev (fun k => spec_giPath.l0 k (!u) t x acc) (acc ++ toG L) := by
 induction h with
 | nil =>
  intro acc hd hx hg hb
  refine Ev.succ ?_
  simp only [spec_giPath.l0]
  have e := l1Same_ev t t (by have := (goodL_iff t).1 htg; omega)
  rw [zba rfl] at e
  refine Ev.bind e ?_
  simp only [if_true, toG, zav, List.append_nil]
  exact Ev.now _
 | @cons x i j L hne hn h ih =>
  intro acc hd hx hg hb
  have g := nx_gv u hn
  have hlen := (goodL_iff x).1 hg
  have hl := hd.1
  rw [List.length_cons] at hb
  obtain ⟨e1, e2⟩ := gv_done hl hg htg hx ht g
  have h1 := hn.lt
  have h2 := hn.hj
  have ih' := ih (acc ++ [⟨(i : Int), (j : Int), gvA u x t i j⟩]) (gv_dom hd g) (gv_desc hl hx ht g) (gv_good hl hg htg g) (by rw [List.length_append, List.length_singleton]; omega)
  have hgv := giDo_eq x (i : Int) (j : Int) (gvA u x t i j) (by omega) (by omega) (by omega) (by omega)
  rw [e1] at hgv
  have hrk := liRank_ev (giveL x (i : Int) (j : Int) (gvA u x t i j)) (tacb)
  rw [e2] at hrk
  refine Ev.succ ?_
  simp only [spec_giPath.l0]
  have e := l1Same_ev t x (by omega)
  rw [zbj (Ne.symm hne)] at e
  refine Ev.bind e ?_
  simp only [zbo, if_false]
  have en : Ev (fun K => spec_giNext.f K t x) ((i : Int), (j : Int), 1) := specNext1 hl (by omega) hn j 0 (by omega)
  refine Ev.bind en ?_
  have b1 := rd_good htg (i := (i : Int)) (by omega) (by omega)
  have b2 := rd_good htg (i := (j : Int)) (by omega) (by omega)
  have b3 := rd_good hg (i := (i : Int)) (by omega) (by omega)
  have b4 := rd_good hg (i := (j : Int)) (by omega) (by omega)
  simp only [if_pos (show (0 : Int) ≤ (i : Int) by omega), if_pos (show (0 : Int) ≤ (j : Int) by omega), if_pos (show (i : Int) < (x.length : Int) by omega), if_pos (show (i : Int) < (t.length : Int) by omega), if_pos (show (j : Int) < (x.length : Int) by omega), if_pos (show (j : Int) < (t.length : Int) by omega), if_pos (show acc.length < 5864062014805 by omega)]
  have er : acc ++ toG ((i, j, gvA u x t i j) :: L) = (acc ++ [⟨(i : Int), (j : Int), gvA u x t i j⟩]) ++ toG L := by simp [toG]
  rw [er]
  cases u with
  | true =>
   have ea : gvA true x t i j = 1 := rfl
   rw [ea] at hgv hrk ih' ⊢
   simp only [Bool.not_true, zbo, if_false, hgv, zbd]
   exact Ev.bind hrk ih'
  | false =>
   have ea : spec_l1Least.f (wrap64 (rd x (i : Int) - rd t (i : Int))) (wrap64 (rd t (j : Int) - rd x (j : Int))) = some (gvA false x t i j) := by
    rw [w64 (x := rd x (i : Int) - rd t (i : Int)) (by omega) (by omega), w64 (x := rd t (j : Int) - rd x (j : Int)) (by omega) (by omega)]
    unfold spec_l1Least.f gvA
    simp only [zbo, if_false]
    split <;> (congr 1; omega)
   simp only [Bool.not_false, if_true, ea, hgv, zbd]
   exact Ev.bind hrk ih'
noncomputable def gpL (u : Bool) (x t : List Int) : List (Nat × Nat × Int) := open Classical in if h : ∃ L, GP u t x L ∧ (L.length : Int) ≤ unitL x t then h.choose else []
theorem gpL_spec (u : Bool) {x t : List Int} (hd : Dom x t) (hx : Desc x) (ht : Desc t) (hg : goodL x = true) (htg : goodL t = true) : GP u t x (gpL u x t) ∧ ((gpL u x t).length : Int) ≤ unitL x t := by
 have hu := unitL_nn x t
 have h := gp_exists u ht htg (unitL x t).toNat x hd hx hg (by omega)
 unfold gpL
 rw [dif_pos h]
 exact h.choose_spec
theorem toG_length (L : List (Nat × Nat × Int)) : (toG L).length = L.length := by simp [toG]
noncomputable def pathL (u : Bool) (a b : List Int) : List S39 := toG (gpL u (descL b) (descL a))
theorem pathL_ev (u : Bool) (a b : List Int) (h : betB a b = true) : Ev (fun k => impl_path.f k (descL b) (descL a) u) (pathL u a b) ∧ Ev (fun k => spec_giPath.f k a b (!u)) (pathL u a b) ∧ (pathL u a b).length ≤ 480 := by
 obtain ⟨ga, gb, hm⟩ := (betB_iff a b).1 h
 have hd := (majB_dom a b).1 hm
 have ga' : goodL (descL a) = true := by rw [good_desc]; exact ga
 have gb' : goodL (descL b) = true := by rw [good_desc]; exact gb
 obtain ⟨hG, hlen⟩ := gpL_spec u hd (descL_desc b) (descL_desc a) gb' ga'
 have hbd := unitL_bd gb' ga' hd.1
 refine ⟨?_, ?_, by unfold pathL; rw [toG_length]; omega⟩
 · have := implPath_gp u (descL_desc a) ga' hG [] hd (descL_desc b) gb' (by rw [List.length_nil]; omega)
   rw [List.nil_append] at this
   exact this
 · have := specPath_gp u (descL_desc a) ga' hG [] hd (descL_desc b) gb' (by rw [List.length_nil]; omega)
   rw [List.nil_append] at this
   unfold spec_giPath.f
   exact Ev.bind (liRank_ev a (by have := (good_sm ga).1; omega)) (Ev.bind (liRank_ev b (by have := (good_sm gb).1; omega)) this)
noncomputable def pathR (a b : List Int) : List S39 × Bool := if betB a b = true then (pathL true a b, true) else ([], false)
theorem maj_l (l : List Int) (hl : Bytes l) (b : List Int) (hb : Bd 12 100 b) : ∀ (d : Nat) (acc : List Int) (a s : Int), (d : Int) ≤ 12 → 0 ≤ a → a ≤ 700000000 - 100 * (d : Int) → Bd 12 100 acc → ∃ x y a' s', Ev (fun k => spec_l1Cur_majorized.l0 k b acc (d : Int) l a s) (x, y, a', s') ∧ Bd 12 100 x ∧ Bd 12 100 y ∧ a ≤ a' ∧ a' ≤ a + 10 + 30 * (d : Int) := by
 intro d
 have fin : ∀ (acc : List Int) (n a s : Int), Bd 12 100 acc → ∃ x y a' s', Ev (fun k => spec_l1Cur_majorized.j1 k b acc n false l a s) (x, y, a', s') ∧ Bd 12 100 x ∧ Bd 12 100 y ∧ a ≤ a' ∧ a' ≤ a := fun acc n a s h => by
  refine ⟨acc, b, a, s, Ev.succ ?_, h, hb, by omega, by omega⟩
  simp only [spec_l1Cur_majorized.j1, zbo, if_false]
  exact Ev.now _
 induction d with
 | zero =>
  intro acc a s hd h0 h1 hacc
  obtain ⟨x, y, a', s', e, q1, q2, q3, q4⟩ := fin acc ((0 : Nat) : Int) a s hacc
  refine ⟨x, y, a', s', Ev.succ ?_, q1, q2, q3, by omega⟩
  simp only [spec_l1Cur_majorized.l0, if_neg (show ¬ ((0 : Nat) : Int) > 0 by omega)]
  exact e
 | succ d ih =>
  intro acc a s hd h0 h1 hacc
  by_cases c : (acc.length : Int) > 1
  · obtain ⟨i, a1, s1, e1, p0, p, p1, p2⟩ := pick_ev l hl a s (acc.length : Int) h0 (by omega)
    obtain ⟨j, a2, s2, e2, r0, r, r1, r2⟩ := pick_ev l hl a1 s1 (acc.length : Int) (by omega) (by omega)
    have hi : i < (acc.length : Int) := by omega
    have hj : j < (acc.length : Int) := by omega
    have b1 := hacc.high _ (rd_mem p0 hi)
    have b2 := hacc.low _ (rd_mem p0 hi)
    have b3 := hacc.high _ (rd_mem r0 hj)
    have b4 := hacc.low _ (rd_mem r0 hj)
    have ed : wrap64 (((d + 1 : Nat) : Int) - 1) = (d : Int) := by rw [w64 (by omega) (by omega)]; omega
    by_cases t : rd acc i ≥ rd acc j + 2
    · have h1' : Bd 12 100 (acc.set i.toNat (rd acc i - 1)) := hacc.set _ (by omega) (by omega)
      have hne : i ≠ j := fun e => by rw [e] at t; omega
      have er : rd (acc.set i.toNat (rd acc i - 1)) j = rd acc j := rd_set_ne _ p0 r0 hne
      have h2' : Bd 12 100 ((acc.set i.toNat (rd acc i - 1)).set j.toNat (rd acc j + 1)) := h1'.set _ (by omega) (by omega)
      obtain ⟨x, y, a', s', e, q1, q2, q3, q4⟩ := ih _ a2 s2 (by omega) (by omega) (by omega) h2'
      refine ⟨x, y, a', s', Ev.succ ?_, q1, q2, by omega, by omega⟩
      simp only [spec_l1Cur_majorized.l0, if_pos (show ((d + 1 : Nat) : Int) > 0 by omega), zba c]
      refine Ev.succ ?_
      simp only [spec_l1Cur_majorized.j1, if_true, e1, e2, zbd, if_pos p0, if_pos hi, if_pos r0, if_pos hj, w64 (x := rd acc j + 2) (by omega) (by omega), if_pos t, w64 (x := rd acc i - 1) (by omega) (by omega), er, w64 (x := rd acc j + 1) (by omega) (by omega), ed]
      exact e
    · obtain ⟨x, y, a', s', e, q1, q2, q3, q4⟩ := ih acc a2 s2 (by omega) (by omega) (by omega) hacc
      refine ⟨x, y, a', s', Ev.succ ?_, q1, q2, by omega, by omega⟩
      simp only [spec_l1Cur_majorized.l0, if_pos (show ((d + 1 : Nat) : Int) > 0 by omega), zba c]
      refine Ev.succ ?_
      simp only [spec_l1Cur_majorized.j1, if_true, e1, e2, zbd, if_pos p0, if_pos hi, if_pos r0, if_pos hj, w64 (x := rd acc j + 2) (by omega) (by omega), if_neg t, ed]
      exact e
  · obtain ⟨x, y, a', s', e, q1, q2, q3, q4⟩ := fin acc ((d + 1 : Nat) : Int) a s hacc
    refine ⟨x, y, a', s', Ev.succ ?_, q1, q2, q3, by omega⟩
    simp only [spec_l1Cur_majorized.l0, if_pos (show ((d + 1 : Nat) : Int) > 0 by omega), zbj c]
    exact e
theorem majorized_ev (l : List Int) (hl : Bytes l) (m : Int) (hm : 0 ≤ m) (hm2 : m ≤ 61) (a s : Int) (h0 : 0 ≤ a) (h1 : a ≤ 400000000) : ∃ x y a' s', Ev (fun k => spec_l1Cur_majorized.f k l a s m) (x, y, a', s') ∧ Bd 12 100 x ∧ Bd 12 100 y ∧ a ≤ a' ∧ a' ≤ a + 2000 := by
 obtain ⟨b, a1, s1, e1, hb, b1, b2⟩ := list_ev l hl m hm (by omega) a s h0 (by omega)
 obtain ⟨t, a2, s2, e2, c1, c2⟩ := one_ev l hl a1 s1 8 (by omega) (by omega)
 have hb' : Bd 12 100 b := hb.le (by omega) (by omega)
 cases t with
 | true =>
  obtain ⟨x, y, a3, s3, e3, hx, hy, d1, d2⟩ := fitting_ev l hl m hm hm2 a2 s2 (by omega) (by omega)
  refine ⟨x, y, a3, s3, ?_, hx, hy, by omega, by omega⟩
  unfold spec_l1Cur_majorized.f
  refine Ev.bind e1 ?_
  simp only [e2, zbd, if_true]
  exact Ev.bind e3 (Ev.now _)
 | false =>
  obtain ⟨n, a3, s3, e3, n0, n1, d1, d2⟩ := pick_ev l hl a2 s2 9 (by omega) (by omega)
  obtain ⟨d, hd⟩ := Int.eq_ofNat_of_zero_le n0
  have hd' : n = (d : Int) := hd
  have hlen := hb.len
  obtain ⟨x, y, a', s', h, q1, q2, q3, q4⟩ := maj_l l hl b hb' d b a3 s3 (by omega) (by omega) (by omega) hb'
  refine ⟨x, y, a', s', ?_, q1, q2, by omega, by omega⟩
  unfold spec_l1Cur_majorized.f
  refine Ev.bind e1 ?_
  simp only [e2, zbd, zbo, if_false, l1Own_eq b (by omega), e3]
  rw [hd']
  exact h
theorem drawGiftPath_ev (l : List Int) (hl : Bytes l) : ∃ x y, Ev (fun k => spec_DrawGiftPath.f k l) (x, y) ∧ Bd 12 100 x ∧ Bd 12 100 y := by
 obtain ⟨t, a1, s1, e1, c1, c2⟩ := one_ev l hl 0 0 20 (by omega) (by omega)
 cases t with
 | true =>
  refine ⟨[30, 30, 30, 30, 30, 30, 30, 30], [60, 60, 60, 60, 0, 0, 0, 0], ?_, ⟨by decide, by decide, by decide⟩, ⟨by decide, by decide, by decide⟩⟩
  unfold spec_DrawGiftPath.f
  simp only [e1, zbd, if_true]
  exact Ev.now _
 | false =>
  obtain ⟨x, y, a', s', e, h1, h2, _, _⟩ := majorized_ev l hl 15 (by omega) (by omega) a1 s1 (by omega) (by omega)
  refine ⟨x, y, ?_, h1, h2⟩
  unfold spec_DrawGiftPath.f
  simp only [e1, zbd, zbo, if_false]
  exact Ev.bind e (Ev.now _)
theorem implUnits_l (p q : List Int) (hl : p.length = q.length) (hp : Sm p) (hq : Sm q) : ∀ (n i : Nat) (s : Int), i + n = p.length → 0 ≤ s → s ≤ 1000 * i → Ev (fun k => impl_FewestUnits.l0 k s p q (p.length : Int) (i : Int)) (s + unitL (p.drop i) (q.drop i), true)
 | 0, i, s, h, h0, h1 => by
  refine Ev.succ ?_
  simp only [impl_FewestUnits.l0, if_neg (show ¬ (i : Int) < (p.length : Int) by omega)]
  rw [unitL_end (by omega), Int.add_zero]
  exact Ev.now _
 | n + 1, i, s, h, h0, h1 => by
  have hi : i < p.length := by omega
  have hj : i < q.length := by omega
  have b1 := hp.2 _ (List.getElem_mem hi)
  have b2 := hq.2 _ (List.getElem_mem hj)
  have hm := hp.1
  refine Ev.succ ?_
  simp only [impl_FewestUnits.l0, if_pos (show (i : Int) < (p.length : Int) by omega), if_pos (show (i : Int) < (q.length : Int) by omega), if_pos (show (0 : Int) ≤ (i : Int) by omega), rdn hi, rdn hj, wsucc hi (by omega), mx_eq, w64 (x := p[i] - q[i]) (by omega) (by omega), w64 (x := s + max 0 (p[i] - q[i])) (by omega) (by omega)]
  have ih := implUnits_l p q hl hp hq n (i + 1) (s + max 0 (p[i] - q[i])) (by omega) (by omega) (by omega)
  rw [unitL_drop hi hj, ← Int.add_assoc]
  exact ih
def unitsR (a b : List Int) : Int × Bool := if betB a b = true then (unitL (descL b) (descL a), true) else (0, false)
theorem implFewestUnits_ev (a b : List Int) (ha : a.length ≤ 1048576) (hb : b.length ≤ 1048576) : Ev (fun k => impl_FewestUnits.f k a b) (unitsR a b) := by
 unfold impl_FewestUnits.f unitsR
 refine Ev.bind (isBetween_ev a b ha hb) (Ev.ite (fun h => ?_) (fun _ => Ev.now _))
 obtain ⟨ga, gb, hm⟩ := (betB_iff a b).1 h
 simp only [ranking_eq (good_sm ga), ranking_eq (good_sm gb), zbd]
 have hl := ((majB_iff a b).1 hm).1
 have := implUnits_l (descL b) (descL a) (by rw [descL_length, descL_length]; omega) (sm_desc (good_sm gb)) (sm_desc (good_sm ga)) (descL b).length 0 0 (by omega) (by omega) (by omega)
 simpa using this












def majR (a b : List Int) : Bool × Bool := if goodL a = true then (if goodL b = true then (majB a b, true) else (false, false)) else (false, false)
theorem implIsMajorized_ev (a b : List Int) (ha : a.length ≤ 1048576) (hb : b.length ≤ 1048576) : Ev (fun k => impl_IsMajorized.f k a b) (majR a b) := by
 unfold impl_IsMajorized.f majR
 refine Ev.bind (areLists_ev a b ha hb) ?_
 by_cases ga : goodL a = true
 · by_cases gb : goodL b = true
   · simp only [ga, gb, if_true]
     exact Ev.bind (isMajorized_ev a b (good_sm ga) (good_sm gb)) (Ev.now _)
   · simp only [ga, if_true, if_neg gb]
     exact Ev.now _
 · simp only [if_neg ga, zbo, if_false]
   exact Ev.now _
theorem big_eq (a b : List Int) (ha : a.length ≤ 140737488355328) : laws_big.f a b = some (decide ((a.length : Int) > 1048576 ∨ (b.length : Int) > 1048576 - (a.length : Int))) := by
 unfold laws_big.f
 rw [w64 (x := 1048576 - (a.length : Int)) (by omega) (by omega)]
 by_cases h : (a.length : Int) > 1048576
 · simp [h]
 · simp only [if_neg h]
   congr 1
   by_cases h2 : (b.length : Int) > 1048576 - (a.length : Int)
   · rw [zba h2, zba (.inr h2)]
   · rw [zbj h2, zbj (by omega)]
theorem bytes_of {l : List Int} (h : l.length ≤ 1048576) (hx : ∀ x ∈ l, (Lit.int .u8 x).wf = true) : Bytes l := by
 refine ⟨h, fun x hm => ?_⟩
 have := hx x hm
 simp only [Lit.wf, Bool.and_eq_true, decide_eq_true_eq] at this
 exact ⟨this.1, this.2⟩
theorem pBelow_ev (a b : List Int) (ha : a.length ≤ 1048576) (hb : b.length ≤ 1048576) : Ev (fun k => laws_pBelow.f k a b) (betB a b) := by
 unfold laws_pBelow.f betB
 refine Ev.bind (implIsMajorized_ev a b ha hb) ?_
 unfold majR
 by_cases ga : goodL a = true
 · by_cases gb : goodL b = true
   · simp only [ga, gb, if_true]
     exact Ev.now _
   · simp only [ga, if_true, if_neg gb, zbo, if_false]
     exact Ev.now _
 · simp only [if_neg ga, zbo, if_false]
   exact Ev.now _
theorem big_cut (l0 l1 : List Int) (g0 : l0.length * 1 ≤ 140737488351232) (x0 : ∀ x ∈ l0, (Lit.int .u8 x).wf = true) (x1 : ∀ x ∈ l1, (Lit.int .u8 x).wf = true) : laws_big.f l0 l1 = some true ∨ laws_big.f l0 l1 = some false ∧ Bytes l0 ∧ Bytes l1 := by
 rw [big_eq l0 l1 (by omega)]
 by_cases hb : (l0.length : Int) > 1048576 ∨ (l1.length : Int) > 1048576 - (l0.length : Int)
 · rw [zba hb]
   exact .inl rfl
 · rw [zbj hb]
   exact .inr ⟨rfl, bytes_of (by omega) x0, bytes_of (by omega) x1⟩
mutual
def impl_MixOf.j0 : Nat → List Int → List Int → Bool → Option (List Int × Bool)
 | 0, _, _, _ => none
 | k + 1, x0, x1, x20 => if x20 = true then (some (([] : List Int), false)) else ((impl_ranking.f x0).bind fun t647 => ((impl_ranking.f x1).bind fun t650 => (impl_MixOf.l0 k t647 t650 (t650.length : Int) 0)))
def impl_MixOf.l0 : Nat → List Int → List Int → Int → Int → Option (List Int × Bool)
 | 0, _, _, _, _ => none
 | k + 1, x6, x25, x26, x27 => if x27 < x26 then (if 0 ≤ x27 then (if x27 < (x25.length : Int) then (if x27 < (x6.length : Int) then (impl_MixOf.l0 k (x6.set (x27 : Int).toNat (wrap64 ((rd x6 x27) + (rd x25 x27)))) x25 x26 (wrap64 (x27 + 1))) else (none)) else (none)) else (none)) else ((impl_IsList.f k x6).bind fun t656 => (if t656 = true then (some (x6, true)) else (some (([] : List Int), false))))
end
def spec_liIf.f (k : Nat) (l0 : List Int) : Option (List Int × Bool) := (spec_liGood.f k l0).bind fun t544 => (if t544 = true then (some (l0, true)) else (some (([] : List Int), false)))
mutual
def spec_MixOf.j0 : Nat → List Int → List Int → Bool → Option (List Int × Bool)
 | 0, _, _, _ => none
 | k + 1, x0, x1, x24 => if x24 = true then (some (([] : List Int), false)) else ((spec_liRank.f k x0).bind fun t701 => ((spec_liRank.f k x1).bind fun t704 => (spec_MixOf.l0 k t701 t704 ([] : List Int) (t701.length : Int) 0)))
def spec_MixOf.l0 : Nat → List Int → List Int → List Int → Int → Int → Option (List Int × Bool)
 | 0, _, _, _, _, _ => none
 | k + 1, x6, x7, x8, x30, x31 => if x31 < x30 then (if 0 ≤ x31 then (if x31 < (x6.length : Int) then (if x31 < (x7.length : Int) then (if x8.length < 17592186044416 then (spec_MixOf.l0 k x6 x7 (x8 ++ [wrap64 ((rd x6 x31) + (rd x7 x31))]) x30 (wrap64 (x31 + 1))) else (none)) else (none)) else (none)) else (none)) else ((spec_liIf.f k x8).bind fun bt712 => (some (bt712.1, bt712.2)))
end


theorem ex_set (l : List Int) (i : Int) (h0 : 0 ≤ i) (h1 : i < l.length) (v t : Int) : ex (l.set i.toNat v) t = ex l t - max (rd l i - t) 0 + max (v - t) 0 := sum_map_set_rd (fun x => max (x - t) 0) l i h0 h1 v
theorem ex_give (l : List Int) (f t a : Int) (h1 : 0 ≤ f ∧ f < l.length) (h2 : 0 ≤ t ∧ t < l.length) (h3 : f ≠ t) (s : Int) : ex (giveL l f t a) s = ex l s - max (rd l f - s) 0 + max (rd l f - a - s) 0 - max (rd l t - s) 0 + max (rd l t + a - s) 0 := by
 unfold giveL
 rw [ex_set _ t h2.1 (tacx), ex_set _ f h1.1 h1.2, rd_set_ne _ h1.1 h2.1 h3]
theorem sum_set (l : List Int) (i : Int) (h0 : 0 ≤ i) (h1 : i < l.length) (v : Int) : (l.set i.toNat v).sum = l.sum - rd l i + v := by
 have h := sum_map_set_rd (fun x => x) l i h0 h1 v
 simpa using h
theorem give_sum (l : List Int) (f t a : Int) (h1 : 0 ≤ f ∧ f < l.length) (h2 : 0 ≤ t ∧ t < l.length) (h3 : f ≠ t) : (giveL l f t a).sum = l.sum := by
 unfold giveL
 rw [sum_set _ t h2.1 (tacx), sum_set _ f h1.1 h1.2, rd_set_ne _ h1.1 h2.1 h3]
 omega
theorem kind_maj {l : List Int} {f t a : Int} (hk : kindB l f t a = true) : majB (giveL l f t a) l = true := by
 obtain ⟨hG, c1, c2⟩ := (kindB_iff l f t a).1 hk
 obtain ⟨h1, h2, h3, h4⟩ := (isG_iff l f t a).1 hG
 refine (maj_ex _ _).2 ⟨giveL_length l f t a, give_sum l f t a h1 h2 h3, fun s => ?_⟩
 rw [ex_give l f t a h1 h2 h3]
 omega
theorem sqS_perm {a b : List Int} (h : a.Perm b) : sqS a = sqS b := perm_sum (h.map _)
theorem kind_fall {l : List Int} {f t a : Int} (hk : kindB l f t a = true) : 0 < 2 * a * (rd l f - rd l t - a) := by
 obtain ⟨hG, c1, c2⟩ := (kindB_iff l f t a).1 hk
 obtain ⟨h1, h2, h3, h4⟩ := (isG_iff l f t a).1 hG
 exact Int.mul_pos (by omega) (by omega)
theorem rd_c0 (x : Int) (l : List Int) : rd (x :: l) ((0 : Nat) : Int) = x := by simp [rd]
theorem rd_cs (x : Int) (l : List Int) (k : Nat) : rd (x :: l) ((k + 1 : Nat) : Int) = rd l (k : Int) := by
 unfold rd
 rw [show (((k + 1 : Nat) : Int)).toNat = k + 1 from by omega, show ((k : Int)).toNat = k from by omega, List.getD_cons_succ]
theorem unit_cons (x y : Int) (p q : List Int) : unitL (x :: p) (y :: q) = max 0 (x - y) + unitL p q := by simp [unitL]
theorem unit_diff : ∀ (p q : List Int), p.length = q.length → unitL p q - unitL q p = p.sum - q.sum
 | [], [], _ => by simp [unitL]
 | x :: p, y :: q, h => by
  have ih := unit_diff p q (taaz)
  rw [unit_cons, unit_cons, List.sum_cons, List.sum_cons]
  omega
 | [], y :: q, h => by simp at h
 | x :: p, [], h => by simp at h
theorem unit_add : ∀ (p q : List Int), p.length = q.length → (∀ x ∈ p, 0 ≤ x ∧ x ≤ 60) → (∀ x ∈ q, 0 ≤ x ∧ x ≤ 60) → unitL p q + unitL q p ≤ 60 * p.length
 | [], [], _, _, _ => by simp [unitL]
 | x :: p, y :: q, h, hp, hq => by
  have ih := unit_add p q (taaz) (fun z hz => hp z (List.mem_cons_of_mem _ hz)) (fun z hz => hq z (List.mem_cons_of_mem _ hz))
  have h1 := hp x List.mem_cons_self
  have h2 := hq y List.mem_cons_self
  rw [unit_cons, unit_cons, List.length_cons]
  omega
 | [], y :: q, h, _, _ => by simp at h
 | x :: p, [], h, _, _ => by simp at h
theorem unit_240 {p q : List Int} (hp : goodL p = true) (hq : goodL q = true) (hl : p.length = q.length) (hs : p.sum = q.sum) : unitL p q ≤ 240 := by
 have g1 := (goodL_iff p).1 hp
 have g2 := (goodL_iff q).1 hq
 have h1 := unit_diff p q hl
 have h2 := unit_add p q hl g1.2.2 g2.2.2
 omega
theorem unit_low : ∀ (x h : List Int), x.length = h.length → (∀ k : Nat, k < x.length → rd h (k : Int) ≤ rd x (k : Int)) → unitL x h = x.sum - h.sum
 | [], [], _, _ => by simp [unitL]
 | x :: p, y :: q, e, hk => by
  have ih := unit_low p q (by simpa using e) (fun k h => by
   have := hk (k + 1) (taaz)
   rw [rd_cs, rd_cs] at this
   exact this)
  have h0 := hk 0 (taae)
  rw [rd_c0, rd_c0] at h0
  rw [unit_cons, List.sum_cons, List.sum_cons, ih]
  omega
 | [], y :: q, h, _ => by simp at h
 | x :: p, [], h, _ => by simp at h
theorem gv_kind {x t : List Int} {i j : Nat} {a : Int} (hl : x.length = t.length) (hx : goodL x = true) (ht : Desc t) (g : Gv x t i j a) : kindB x (i : Int) (j : Int) a = true := by
 have h1 := g.lt
 have h2 := g.hj
 have h3 := g.ai
 have h4 := g.aj
 have h5 := g.pos
 have d := desc_rd ht (a := i) (b := j) (by omega) (by omega)
 have b1 := rd_good hx (i := (i : Int)) (by omega) (by omega)
 have b2 := rd_good hx (i := (j : Int)) (by omega) (by omega)
 exact (kindB_iff _ _ _ _).2 ⟨(isG_iff _ _ _ _).2 ⟨by omega, by omega, by omega, h5⟩, by omega, by omega⟩
def movedL (L : List (Nat × Nat × Int)) : Int := (L.map fun g => g.2.2).sum
theorem gp_moved {u : Bool} {t : List Int} {x : List Int} {L : List (Nat × Nat × Int)} (h : GP u t x L) (hl : x.length = t.length) : movedL L = unitL x t := by
 induction h with
 | nil =>
  have := unit_diff t t rfl
  have h0 := unit_low t t rfl (fun _ _ => Int.le_refl _)
  simp [movedL]
  omega
 | @cons x i j L hne hn h ih =>
  have g := nx_gv u hn
  have e := gv_unit hl g
  have := ih (by rw [giveL_length]; exact hl)
  simp only [movedL, zau, List.sum_cons] at this ⊢
  omega
theorem foll_cons (x : List Int) (g : S39) (p : List S39) : foll x (g :: p) = if kindB x g.f0 g.f1 g.f2 = true then (foll (stepG x g) p).map (stepG x g :: ·) else none := rfl
theorem stepG_length (x : List Int) (g : S39) : (stepG x g).length = x.length := by
 unfold stepG
 rw [descL_length, giveL_length]
theorem isG_len {x y : List Int} (h : x.length = y.length) (f t a : Int) : isG x f t a = isG y f t a := by
 unfold isG
 rw [h]
theorem foll_isG : ∀ (p : List S39) (x : List Int) (M : List (List Int)), foll x p = some M → ∀ g ∈ p, isG x g.f0 g.f1 g.f2 = true
 | [], _, _, _, g, hg => by simp at hg
 | g :: p, x, M, h, q, hq => by
  rw [foll_cons] at h
  by_cases c : kindB x g.f0 g.f1 g.f2 = true
  · rw [if_pos c] at h
    obtain ⟨N, h1, _⟩ := Option.map_eq_some_iff.1 h
    rcases List.mem_cons.1 hq with rfl | hq
    · exact ((kindB_iff _ _ _ _).1 c).1
    · rw [isG_len (stepG_length x g).symm]
      exact foll_isG p (stepG x g) N h1 q hq
  · rw [if_neg c] at h
    cases h
theorem lastR_cons (x y : List Int) (M : List (List Int)) : lastR (x :: y :: M) = lastR (y :: M) := by
 unfold lastR
 simp
theorem foll_gp {u : Bool} {t x : List Int} {L : List (Nat × Nat × Int)} (h : GP u t x L) (ht : Desc t) (htg : goodL t = true) : Dom x t → Desc x → goodL x = true → ∃ M, foll x (toG L) = some M ∧ lastR (x :: M) = t := by
 induction h with
 | nil => exact fun _ _ _ => ⟨[], rfl, rfl⟩
 | @cons x i j L hne hn h ih =>
  intro hd hx hg
  have g := nx_gv u hn
  have hk := gv_kind hd.1 hg ht g
  have hs : stepG x ⟨(i : Int), (j : Int), gvA u x t i j⟩ = giveL x (i : Int) (j : Int) (gvA u x t i j) := descL_of_desc (gv_desc hd.1 hx ht g)
  obtain ⟨M, h1, h2⟩ := ih (gv_dom hd g) (gv_desc hd.1 hx ht g) (gv_good hd.1 hg htg g)
  refine ⟨giveL x (i : Int) (j : Int) (gvA u x t i j) :: M, ?_, by rw [lastR_cons]; exact h2⟩
  show foll x (⟨(i : Int), (j : Int), gvA u x t i j⟩ :: toG L) = _
  rw [foll_cons, if_pos hk, hs, h1]
  rfl
theorem igp_eq (a b : List Int) (p : List S39) (ha : a.length ≤ 1048576) (hb : b.length ≤ 1048576) (hp : p.length ≤ 1048576) : impl_IsGiftPath.f a b p = some (igpR a b p) := by
 unfold impl_IsGiftPath.f
 rw [if_pos ⟨ha, hb, hp⟩]
theorem any_not_all (b : List Int) (p : List S39) : (p.any fun g => !isG b g.f0 g.f1 g.f2) = !(p.all fun g => isG b g.f0 g.f1 g.f2) := by
 rw [List.not_all_eq_any_not]
def followR (b : List Int) (p : List S39) : List (List Int) × Bool := if goodL b = true then (if (p.length : Int) ≤ 240 then folA [descL b] (foll (descL b) p) true else ([], false)) else ([], false)
theorem folA_false (L : List (List Int)) (o : Option (List (List Int))) : (folA L o false).2 = false := by
 cases o <;> rfl
theorem implFollowGifts_ev (b : List Int) (p : List S39) (hb : b.length ≤ 1048576) (hp : p.length ≤ 1048576) : Ev (fun k => impl_FollowGifts.f k b p) (followR b p) := by
 unfold impl_FollowGifts.f followR
 refine Ev.bind (implIsList_ev b (by omega)) ?_
 by_cases gb : goodL b = true
 · have hf : impl_follow.f b p = some (folA [descL b] (foll (descL b) p) (decide ((p.length : Int) ≤ 240))) := by
    unfold impl_follow.f
    rw [if_pos ⟨gb, hp⟩]
   simp only [gb, if_true, hf, zbd]
   by_cases n : (p.length : Int) ≤ 240
   · rw [if_pos n, zba n]
     cases foll (descL b) p with
     | none =>
      simp only [folA, zbo, if_false]
      exact Ev.now _
     | some M =>
      simp only [folA, if_true]
      exact Ev.now _
   · rw [if_neg n, zbj n, folA_false]
     simp only [zbo, if_false]
     exact Ev.now _
 · simp only [if_neg gb]
   exact Ev.now _
theorem pGifts_self (p : List S39) (hp : p.length ≤ 1048576) : Ev (fun k => laws_pGifts.f k p p) true := by
 unfold laws_pGifts.f
 simp only [if_true]
 have key : ∀ (d i : Nat), i + d = p.length → Ev (fun k => laws_pGifts.l0 k p p (p.length : Int) (i : Int)) true := by
  intro d
  induction d with
  | zero =>
   intro i h
   refine Ev.succ ?_
   simp only [laws_pGifts.l0, if_neg (show ¬ (i : Int) < (p.length : Int) by omega)]
   exact Ev.now _
  | succ d ih =>
   intro i h
   have hi : i < p.length := by omega
   refine Ev.succ ?_
   simp only [laws_pGifts.l0, if_pos (show (i : Int) < (p.length : Int) by omega), if_pos (show (0 : Int) ≤ (i : Int) by omega), beq_self_eq_true, Bool.not_true, Bool.or_false, zbo, if_false, wsucc hi (by omega)]
   exact ih (i + 1) (by omega)
 exact key p.length 0 (by omega)
theorem specGiftPath_ev (a b : List Int) (ha : a.length ≤ 1048576) (hb : b.length ≤ 1048576) : Ev (fun k => spec_GiftPath.f k a b) (pathR a b) := by
 unfold spec_GiftPath.f pathR
 exact Ev.bind (giLists_ev a b ha hb) (Ev.ite (fun h => Ev.bind (pathL_ev true a b h).2.1 (Ev.now _)) (fun _ => Ev.now _))
theorem implGiftPath_ev (a b : List Int) (ha : a.length ≤ 1048576) (hb : b.length ≤ 1048576) : Ev (fun k => impl_GiftPath.f k a b) (pathR a b) := by
 unfold impl_GiftPath.f pathR
 refine Ev.bind (isBetween_ev a b ha hb) (Ev.ite (fun h => ?_) (fun _ => Ev.now _))
 obtain ⟨ga, gb, hm⟩ := (betB_iff a b).1 h
 simp only [ranking_eq (good_sm ga), ranking_eq (good_sm gb), zbd]
 exact Ev.bind (pathL_ev true a b h).1 (Ev.now _)
theorem pathR_len (a b : List Int) (ha : a.length ≤ 1048576) (hb : b.length ≤ 1048576) : (pathR a b).1.length ≤ 1048576 := by
 unfold pathR
 split
 · next h =>
   have := (pathL_ev true a b h).2.2
   simp only
   omega
 · simp
theorem foll_some {x : List Int} {g : S39} {p : List S39} {M : List (List Int)} (h : foll x (g :: p) = some M) : kindB x g.f0 g.f1 g.f2 = true ∧ ∃ N, foll (stepG x g) p = some N ∧ M = stepG x g :: N := by
 rw [foll_cons] at h
 by_cases c : kindB x g.f0 g.f1 g.f2 = true
 · rw [if_pos c] at h
   obtain ⟨N, h1, h2⟩ := Option.map_eq_some_iff.1 h
   exact ⟨c, N, h1, h2.symm⟩
 · rw [if_neg c] at h
   cases h
theorem step_good {x : List Int} {g : S39} (hx : goodL x = true) (hk : kindB x g.f0 g.f1 g.f2 = true) : goodL (stepG x g) = true := by
 unfold stepG
 rw [good_desc]
 exact kind_give x _ _ _ hx hk
theorem gp_len {t x : List Int} {L : List (Nat × Nat × Int)} (h : GP true t x L) : movedL L = (L.length : Int) := by
 induction h with
 | nil => simp [movedL]
 | @cons x i j L hne hn h ih =>
  have e : gvA true x t i j = 1 := by
   unfold gvA
   rw [if_pos rfl]
  simp only [movedL, zau, List.sum_cons, List.length_cons] at ih ⊢
  rw [e, ih]
  omega
theorem foll_between : ∀ (p : List S39) (x : List Int) (M : List (List Int)), goodL x = true → foll x p = some M → ∀ r ∈ x :: M, goodL r = true ∧ majB r x = true ∧ majB (lastR (x :: M)) r = true
 | [], x, M, hx, h => by
  have e : M = [] := by
   have : foll x [] = some [] := rfl
   rw [this] at h
   exact (zbe h).symm
  subst e; intro r hr
  rw [List.mem_singleton] at hr
  rw [hr]
  exact ⟨hx, maj_refl x, maj_refl x⟩
 | g :: p, x, M, hx, h => by
  obtain ⟨hk, N, h1, rfl⟩ := foll_some h
  have hs := step_good hx hk
  have ih := foll_between p (stepG x g) N hs h1
  have hm : majB (stepG x g) x = true := by
   unfold stepG
   rw [maj_desc_l]
   exact kind_maj hk
  intro r hr
  rw [lastR_cons]
  rcases List.mem_cons.1 hr with rfl | hr
  · exact ⟨hx, maj_refl _, maj_trans (ih (stepG r g) List.mem_cons_self).2.2 hm⟩
  · obtain ⟨q1, q2, q3⟩ := ih r hr
    exact ⟨q1, maj_trans q2 hm, q3⟩
theorem foll_at : ∀ (p : List S39) (x : List Int) (M : List (List Int)), goodL x = true → foll x p = some M → ∀ (i : Nat) (hi : i < p.length), kindB ((x :: M).getD i []) p[i].f0 p[i].f1 p[i].f2 = true ∧ (x :: M).getD (i + 1) [] = stepG ((x :: M).getD i []) p[i] ∧ goodL ((x :: M).getD i []) = true
 | [], _, _, _, _, i, hi => by simp at hi
 | g :: p, x, M, hx, h, i, hi => by
  obtain ⟨hk, N, h1, rfl⟩ := foll_some h
  match i, hi with
  | 0, _ => exact ⟨hk, rfl, hx⟩
  | i + 1, hi => exact foll_at p (stepG x g) N (step_good hx hk) h1 i (by simpa using hi)
end Go.Proofs.Ytnlimjejllakoaa.A
/- The law FnGiftPathsExist holds of the printed functions, for every argument: numbers and lists alone. -/
namespace Go.Proofs.Ytnlimjejllakoaa.Pure
open Go.RowKit Go.Proofs.Ytnlimjejllakoaa.A Go.Proofs.YtnlimjejllakoaaW.PrintWords Go.Proofs.YtnlimjejllakoaaW.PrintLast
set_option linter.unusedVariables false
set_option linter.unusedSimpArgs false
theorem sqR_good2 {l : List Int} (hg : goodL l = true) : sqR l = (sqS l, true) ∧ 0 ≤ sqS l ∧ sqS l ≤ 28800 := by
 have g := (goodL_iff l).1 hg
 obtain ⟨h1, h2, h3⟩ := fold_sq l 0 g.2.2 (by omega) (by omega)
 unfold sqR
 rw [if_pos hg, h1, Int.zero_add]
 exact ⟨rfl, h2, by omega⟩
theorem exist_rows (a b : List Int) (p : List S39) (R : List (List Int)) (hR : R.length = p.length + 1) (hp : p.length ≤ 240) (la : a.length ≤ 1000) (lb : b.length ≤ 1000) (h1 : ∀ r ∈ R, goodL r = true ∧ betB a r = true ∧ betB r b = true) (h2 : ∀ (i : Nat) (hi : i < p.length), kindB (R.getD i []) p[i].f0 p[i].f1 p[i].f2 = true ∧ R.getD (i + 1) [] = descL (giveL (R.getD i []) p[i].f0 p[i].f1 p[i].f2)) : ∀ (d i : Nat), i + d = R.length → Ev (fun k => laws_FnGiftPathsExist.l0 k a b p R R (R.length : Int) (i : Int)) true := by
 intro d
 induction d with
 | zero =>
  intro i h
  refine Ev.succ ?_
  simp only [laws_FnGiftPathsExist.l0, if_neg (show ¬ (i : Int) < (R.length : Int) by omega)]
  exact Ev.now _
 | succ d ih =>
  intro i h
  have hi : i < R.length := by omega
  have hm : rd_L2 R (i : Int) ∈ R := by
   unfold rd_L2
   rw [Int.toNat_natCast, List.getD_eq_getElem?_getD, List.getElem?_eq_getElem hi]
   exact List.getElem_mem hi
  have hrd : rd_L2 R (i : Int) = R.getD i [] := by
   unfold rd_L2
   rw [Int.toNat_natCast]
  obtain ⟨g, q1, q2⟩ := h1 _ hm
  have gl := (goodL_iff _).1 g
  refine Ev.succ ?_
  simp only [laws_FnGiftPathsExist.l0, if_pos (show (i : Int) < (R.length : Int) by omega), if_pos (show (0 : Int) ≤ (i : Int) by omega)]
  refine Ev.bind (pBelow_ev a _ (by omega) (by omega)) ?_
  rw [q1]
  simp only [if_true]
  refine Ev.bind (pBelow_ev _ b (by omega) (by omega)) ?_
  rw [q2]
  simp only [if_true]
  match i, h, hi, hm, hrd, g, gl with
  | 0, h, hi, hm, hrd, g, gl =>
   simp only [if_pos (show ((0 : Nat) : Int) = 0 by rfl), wsucc hi (by omega)]
   exact ih (0 + 1) (by omega)
  | j + 1, h, hi, hm, hrd, g, gl =>
   have hj : j < p.length := by omega
   have ej : wrap64 (((j + 1 : Nat) : Int) - 1) = (j : Int) := by rw [w64 (by omega) (by omega)]; omega
   have hrj : rd_L2 R (j : Int) = R.getD j [] := by
    unfold rd_L2
    rw [Int.toNat_natCast]
   have hmj : rd_L2 R (j : Int) ∈ R := by
    unfold rd_L2
    rw [Int.toNat_natCast, List.getD_eq_getElem?_getD, List.getElem?_eq_getElem (show j < R.length by omega)]
    exact List.getElem_mem _
   have gj := (h1 _ hmj).1
   have glj := (goodL_iff _).1 gj
   obtain ⟨hk, he⟩ := h2 j hj
   have hr : rd_T39 p (j : Int) = p[j] := by
    unfold rd_T39
    rw [Int.toNat_natCast, List.getD_eq_getElem?_getD, List.getElem?_eq_getElem hj]
    rfl
   simp only [if_neg (show ¬ ((j + 1 : Nat) : Int) = 0 by omega), ej, if_pos (show (0 : Int) ≤ (j : Int) by omega), if_pos (show (j : Int) < (R.length : Int) by omega), hr]
   refine Ev.bind (implSquareSum_ev _ (by omega)) (Ev.bind (implSquareSum_ev _ (by omega)) ?_)
   simp only [if_pos (show (j : Int) < (p.length : Int) by omega)]
   refine Ev.bind (implSquaresFall_ev _ _ _ _ (by omega)) ?_
   obtain ⟨s1, s2, s3⟩ := sqR_good2 gj
   obtain ⟨s4, s5, s6⟩ := sqR_good2 g
   have hf : fallR (rd_L2 R (j : Int)) p[j].f0 p[j].f1 p[j].f2 = (2 * p[j].f2 * (rd (R.getD j []) p[j].f0 - rd (R.getD j []) p[j].f1 - p[j].f2), true) := by
    unfold fallR
    rw [if_pos gj, hrj, if_pos hk]
   have hpos := kind_fall hk
   obtain ⟨hG, c1, c2⟩ := (kindB_iff _ _ _ _).1 hk
   obtain ⟨i1, i2, i3, i4⟩ := (isG_iff _ _ _ _).1 hG
   have hsq := sqS_give (R.getD j []) p[j].f0 p[j].f1 p[j].f2 i1 i2 i3
   have hsd : sqS (rd_L2 R ((j + 1 : Nat) : Int)) = sqS (giveL (R.getD j []) p[j].f0 p[j].f1 p[j].f2) := by
    rw [hrd, he]
    exact sqS_perm (descL_perm _)
   rw [s1, s4, hf]
   simp only [if_true]
   rw [← hrj] at hsq hpos ⊢
   rw [w64 (x := sqS (rd_L2 R (j : Int)) - sqS (rd_L2 R ((j + 1 : Nat) : Int))) (by omega) (by omega)]
   rw [← hrj] at hsd
   simp only [if_neg (show ¬ 2 * p[j].f2 * (rd (rd_L2 R (j : Int)) p[j].f0 - rd (rd_L2 R (j : Int)) p[j].f1 - p[j].f2) ≤ 0 by omega), if_pos (show sqS (rd_L2 R (j : Int)) - sqS (rd_L2 R ((j + 1 : Nat) : Int)) = 2 * p[j].f2 * (rd (rd_L2 R (j : Int)) p[j].f0 - rd (rd_L2 R (j : Int)) p[j].f1 - p[j].f2) by omega), wsucc hi (by omega)]
   exact ih (j + 1 + 1) (by omega)
theorem FnGiftPathsExist : laws_FnGiftPathsExist.Pure := by
 intro l0 l1 _ g0 x0 _ g1 x1
 apply Ev.get
 unfold laws_FnGiftPathsExist.f
 rcases big_cut l0 l1 g0 x0 x1 with hb | ⟨hb, b0, b1⟩
 · simp only [hb, zbd, if_true]
   exact Ev.now _
 · simp only [hb, zbd, zbo, if_false]
   obtain ⟨a, b, e, ha, hb⟩ := drawGiftPath_ev l0 b0
   have la := ha.len
   have lb := hb.len
   have hlen := pathR_len a b (by omega) (by omega)
   refine Ev.bind e (Ev.bind (implGiftPath_ev a b (by omega) (by omega)) (Ev.bind (specGiftPath_ev a b (by omega) (by omega)) ?_))
   simp only [bne_self_eq_false, zbo, if_false]
   refine Ev.bind (pGifts_self _ hlen) ?_
   simp only [if_true]
   refine Ev.bind (pBelow_ev a b (by omega) (by omega)) ?_
   by_cases h : betB a b = true
   · have hR : pathR a b = (pathL true a b, true) := by
      unfold pathR
      rw [if_pos h]
     have hU : unitsR a b = (unitL (descL b) (descL a), true) := by
      unfold unitsR
      rw [if_pos h]
     rw [hR, h]
     simp only [bne_self_eq_false]
     refine Ev.succ ?_
     simp only [laws_FnGiftPathsExist.j0, zbo, if_false, if_true]
     obtain ⟨ga, gb, hm⟩ := (betB_iff a b).1 h
     have hd := (majB_dom a b).1 hm
     have ga' : goodL (descL a) = true := by rw [good_desc]; exact ga
     have gb' : goodL (descL b) = true := by rw [good_desc]; exact gb
     obtain ⟨hG, _⟩ := gpL_spec true hd (descL_desc b) (descL_desc a) gb' ga'
     have hbd := unit_240 gb' ga' hd.1 hd.2.1
     have hl : ((gpL true (descL b) (descL a)).length : Int) = unitL (descL b) (descL a) := by
      rw [← gp_len hG]
      exact gp_moved hG hd.1
     obtain ⟨M, f1, f2⟩ := foll_gp hG (descL_desc a) ga' hd (descL_desc b) gb'
     have hpl : (pathL true a b).length = (gpL true (descL b) (descL a)).length := toG_length _
     have hp : (pathL true a b).length ≤ 240 := by omega
     have f1' : foll (descL b) (pathL true a b) = some M := f1
     have hi := foll_isG _ _ _ f1'
     have hf : fitB a b = true := by
      have := (majB_iff a b).1 hm
      exact (fitB_iff a b).2 ⟨this.1, this.2.1⟩
     have higp : igpR a b (pathL true a b) = (true, true) := by
      unfold igpR
      rw [if_pos ga, gb, if_pos rfl, if_pos hf, if_neg (by omega)]
      have hn : ((pathL true a b).any fun g => !isG b g.f0 g.f1 g.f2) = false := by
       rw [any_not_all, Bool.not_eq_false', List.all_eq_true]
       intro g hg
       rw [← isG_len (descL_length b)]
       exact hi g hg
      rw [hn, if_neg (by decide)]
      unfold igpM
      rw [f1']
      simp only [f2, decide_true]
     have hfol : followR b (pathL true a b) = (descL b :: M, true) := by
      unfold followR
      rw [if_pos gb, if_pos (by omega), f1']
      rfl
     refine Ev.bind (implFewestUnits_ev a b (by omega) (by omega)) ?_
     rw [hU]
     simp only [igp_eq a b _ (show a.length ≤ 1048576 by omega) (show b.length ≤ 1048576 by omega) (show (pathL true a b).length ≤ 1048576 by omega), zbd, higp]
     refine Ev.bind (implFollowGifts_ev b _ (by omega) (by omega)) ?_
     rw [hfol]
     have hML := folM_len f1'
     have hRl : (descL b :: M).length = (pathL true a b).length + 1 := by rw [List.length_cons]; omega
     simp only [if_true, if_pos (show unitL (descL b) (descL a) = ((pathL true a b).length : Int) by omega)]
     have en : (((descL b :: M).length : Int) != wrap64 (((pathL true a b).length : Int) + 1)) = false := by
      rw [w64 (by omega) (by omega)]
      exact bne_eq_false_iff_eq.mpr (by omega)
     rw [en]
     refine Ev.succ ?_
     simp only [laws_FnGiftPathsExist.j1, zbo, if_false]
     have hbt := foll_between (pathL true a b) (descL b) M gb' f1'
     have hat := foll_at (pathL true a b) (descL b) M gb' f1'
     refine exist_rows a b (pathL true a b) (descL b :: M) hRl hp (by omega) (by omega) (fun r hr => ?_) (fun i hi => ⟨(hat i hi).1, (hat i hi).2.1⟩) (descL b :: M).length 0 (by omega)
     obtain ⟨r1, r2, r3⟩ := hbt r hr
     rw [f2, maj_desc_l] at r3
     rw [maj_desc_r] at r2
     exact ⟨r1, (betB_iff _ _).2 ⟨ga, r1, r3⟩, (betB_iff _ _).2 ⟨r1, gb, r2⟩⟩
   · have hR : pathR a b = ([], false) := by
      unfold pathR
      rw [if_neg h]
     rw [hR, zbi.2 h]
     simp only [bne_self_eq_false]
     refine Ev.succ ?_
     simp only [laws_FnGiftPathsExist.j0, zbo, if_false]
     exact Ev.now _
end Go.Proofs.Ytnlimjejllakoaa.Pure

