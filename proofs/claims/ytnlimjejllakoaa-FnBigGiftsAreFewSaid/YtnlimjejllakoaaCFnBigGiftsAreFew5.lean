/- What the law FnBigGiftsAreFew reaches, part 5: Lean functions with the same answers as the Go functions, the proofs that the Go code comes to these answers, and lemmas about them; no condition beyond those that each theorem names. -/
import Derived.Test.YtnlimjejllakoaaCFnBigGiftsAreFeww1
import Derived.Lib.VarintBits
import Derived.Lib.Zigzag
import Derived.Test.YtnlimjejllakoaaCFnBigGiftsAreFew1
import Derived.Test.YtnlimjejllakoaaCFnBigGiftsAreFew2
import Derived.Test.YtnlimjejllakoaaCFnBigGiftsAreFew3
import Derived.Test.YtnlimjejllakoaaCFnBigGiftsAreFew4
set_option linter.unusedVariables false
set_option linter.unusedSimpArgs false
namespace Go.Proofs.Ytnlimjejllakoaa.A
open Go.RowKit Go.Proofs.YtnlimjejllakoaaW.PrintWords Go.Proofs.YtnlimjejllakoaaW.PrintLast Go.Proofs.YtnlimjejllakoaaW.PrintMore
attribute [local go_sem] max2_int min2_int max_two min_two max_three min_three max_four min_four
def stepG (x : List Int) (g : S39) : List Int := descL (giveL x g.f0 g.f1 g.f2)
def foll : List Int → List S39 → Option (List (List Int))
 | _, [] => some []
 | x, g :: p => if kindB x g.f0 g.f1 g.f2 = true then (foll (stepG x g) p).map (stepG x g :: ·) else none
def folA (L : List (List Int)) (o : Option (List (List Int))) (b : Bool) : List (List Int) × Bool := match o with
 | some M => (L ++ M, b)
 | none => ([], false)
theorem folA_step (L : List (List Int)) (x : List Int) (g : S39) (p : List S39) (b : Bool) (h : kindB x g.f0 g.f1 g.f2 = true) : folA L (foll x (g :: p)) b = folA (L ++ [stepG x g]) (foll (stepG x g) p) b := by
 have e : foll x (g :: p) = if kindB x g.f0 g.f1 g.f2 = true then (foll (stepG x g) p).map (stepG x g :: ·) else none := rfl
 rw [e, if_pos h]
 cases foll (stepG x g) p with
 | none => rfl
 | some M => simp [folA]
theorem folA_none (L : List (List Int)) (x : List Int) (g : S39) (p : List S39) (b : Bool) (h : ¬ kindB x g.f0 g.f1 g.f2 = true) : folA L (foll x (g :: p)) b = ([], false) := by
 have e : foll x (g :: p) = if kindB x g.f0 g.f1 g.f2 = true then (foll (stepG x g) p).map (stepG x g :: ·) else none := rfl
 rw [e, if_neg h]
 rfl
def FolInv (l1 : List S39) (b : Bool) (r : List (List Int) × Bool) (g : Nat) (x9 : Int) (x : List Int) (L : List (List Int)) : Prop := ∃ i : Nat, x9 = (i : Int) ∧ i ≤ l1.length ∧ l1.length - i ≤ g ∧ goodL x = true ∧ L.length ≤ i + 1 ∧ folA L (foll x (l1.drop i)) b = r
theorem kind_step {x : List Int} {f t a : Int} (hg : goodL x = true) (hk : kindB x f t a = true) : impl_given.f x f t a = some (giveL x f t a) ∧ spec_giDo.f x f t a = some (giveL x f t a) ∧ goodL (giveL x f t a) = true := by
 obtain ⟨hG, c1, c2⟩ := (kindB_iff x f t a).1 hk
 obtain ⟨h1, h2, h3, h4⟩ := (isG_iff x f t a).1 hG
 have b1 := rd_good hg h1.1 h1.2
 have b2 := rd_good hg h2.1 h2.2
 have hb := (goodL_iff x).1 hg
 refine ⟨given_can x f t a hg ((canB_iff x f t a).2 ⟨hG, by omega, by omega⟩), ?_, kind_give x f t a hg hk⟩
 rw [giDo_eq x f t a (by omega) h1 h2 h3, w64 (x := rd x f - a) (by omega) (by omega), w64 (x := rd x t + a) (by omega) (by omega)]
 rfl
def impl_follow.f (l0 : List Int) (l1 : List S39) : Option (List (List Int) × Bool) := if goodL l0 = true ∧ l1.length ≤ 1048576 then some (folA [descL l0] (foll (descL l0) l1) (decide ((l1.length : Int) ≤ 240))) else none
set_option maxHeartbeats 8000000 in
set_option maxRecDepth 100000 in
theorem impl_follow.calls (A0 : Option Addr) (c0 : Nat) (l0 : List Int) (A1 : Option Addr) (c1 : Nat) (l1 : List S39) (r1 : List (List Int)) (r2 : Bool) (w : World) (hr0 : Kd.C (Kd.int .i64) w A0 l0.length l0) (hc0 : l0.length ≤ c0) (hr1 : Kd.C k39 w A1 l1.length l1) (hc1 : l1.length ≤ c1) (h : impl_follow.f l0 l1 = some (r1, r2)) :
 Calls Try.prog 134 #[.slice A0 l0.length c0, .slice A1 l1.length c1] w fun e w' => ∃ v0_ : Value, e = .returned (.tuple #[v0_, .bool r2]) ∧ Kd.S (Kd.slice 3 (Kd.int .i64)) 26 w' w.heap.size (fun _ => True) v0_ r1 ∧ Below w.heap.size w w' := by
 unfold impl_follow.f at h
 split at h
 next hs =>
  obtain ⟨hg0, hs1⟩ := hs
  have hfin := Option.some.inj h
  clear h
  have hu39 := Try.underlying39
  have HR1 := zad hr1
  have HC1 := zad hc1
  have HR0 := zad hr0
  have HC0 := zad hc0
  have HB := zad (Below.refl w.heap.size w)
  have hg0' : goodL (descL l0) = true := by rw [good_desc]; exact hg0
  have hb0 := (goodL_iff l0).1 hg0
  have hrk := ranking_eq (good_sm hg0)
  have HRK := zad hrk
  generalize descL l0 = x0 at HRK hg0' hfin
  have HINV : Aside0 (FolInv l1 (decide ((l1.length : Int) ≤ 240)) (r1, r2) l1.length 0 x0 [x0]) := ⟨0, rfl, Nat.zero_le _, by omega, hg0', by simp, by rw [List.drop_zero]; exact hfin⟩
  have HS1 := zad hs1
  clear hr0 hc0 hr1 hc1 hrk hg0' hfin hb0 hg0 hs1
  go_enter Try.func134, Try.ntmps134
  go_wp2_with (first | ((with_reducible refine gate_callee (f := 88) rfl ?_); refine goesL_ (some 11) rfl rfl Try.func88 (by kernel_rfl) rfl #[.slice A0 l0.length c0] rfl (by (try simp only [zat, zau, zav]); first | done | rfl) ?_; (with_reducible refine (impl_ranking.calls _ _ l0 x0 _ ?side1 ?side2 HRK.out).mono ?_); (case side1 => repeat (first | exact HR0.out | (with_reducible refine zal ?_ _) | (with_reducible refine zam ?_ _) | (with_reducible refine zan ?_))); (case side2 => exact HC0.out); rintro e w1 ⟨v1, rfl, ho, hb⟩; refine ⟨_, rfl, ?_⟩; have n0_ := zad (Kd.R_lower ho (below_size (by repeat (first | (with_reducible first | exact HB.out | apply zag | apply zae | apply zaf) | exact HB.out)))); have n1_ := zad (below_step (by repeat (first | (with_reducible first | exact HB.out | apply zag | apply zae | apply zaf) | exact HB.out)) hb); clear HB; have HN := n0_; have HB := n1_; clear n0_ n1_ ho hb; obtain ⟨A6, c6, e6⟩ := Kd.R_slice HN.out; subst e6) | ((with_reducible refine gate_dst (N := 13) rfl ?_); refine Kd.S_lits (Kd.slice 3 (Kd.int .i64)) _ 26 ?hg (N := 13) ?hd (xs := ([x0] : List (List Int))) (inner := [.slice A6 x0.length c6]) (ok := fun _ => True) (fun j_ _ => j_ = 0) ?hr rfl ?hp (fun i_ j_ _ h1 h2 => h1.trans h2.symm) (fun _ _ _ => trivial) trivial (Below.refl _ _) (below_size (by repeat (first | (with_reducible first | exact HB.out | apply zag | apply zae | apply zaf) | exact HB.out))) (by simp) ?_; (case hd => rfl); (case hg => rfl); (case hr => first | (go_simp; done) | (go_simp; rfl)); (case hp => intro j_ x_ hx_; cases j_ with | zero => (simp only [List.getElem?_cons_zero, Option.some.injEq] at hx_; subst hx_; exact ⟨_, rfl, Kd.R_mono (by (with_reducible repeat (first | apply zai | apply zaj | apply zak)); exact HN.out) (fun _ _ => rfl)⟩) | succ j_ => simp at hx_); intro v2 w2 ho hb hg_ hnew_; replace hb := (fun {a b : World} (h : a.grownBy b none) => (⟨h.os, h.tape, h.output, h.size, fun i hi => h.block i hi (by simp)⟩ : Below a.heap.size a b)) hg_; have HSS := zad ho; have n1_ := zad (Kd.R_grown (by (with_reducible repeat (first | apply zai | apply zaj | apply zak)); exact HN.out) hg_ (fun _ _ => by simp)); have n2_ := zad (below_step (by repeat (first | (with_reducible first | exact HB.out | apply zag | apply zae | apply zaf) | exact HB.out)) hb); clear hg_ hnew_ ho hb HN HB; have HN := n1_; have HB := n2_; clear n1_ n2_))
  go_loopg [6, 7, 16] l1.length (fun g v6 v7 v16 wr => ∃ (x9 : Int) (x : List Int) (L : List (List Int)), v16 = .int .i64 x9 ∧ Aside0 (FolInv l1 (decide ((l1.length : Int) ≤ 240)) (r1, r2) g x9 x L) ∧ Aside0 (Kd.R (Kd.int .i64) 3 wr w.heap.size (fun _ => True) v6 x) ∧ Aside0 (Kd.S (Kd.slice 3 (Kd.int .i64)) 26 wr w.heap.size (fun _ => True) v7 L) ∧ Aside0 (Below w.heap.size w wr))
  case atStart => exact ⟨0, x0, [x0], rfl, HINV, ⟨by (with_reducible repeat (first | apply zai | apply zaj | apply zak)); exact HN.out⟩, ⟨by (with_reducible repeat (first | apply Kd.S_alloc | apply Kd.S_drewN | apply Kd.S_drew)); exact HSS.out⟩, ⟨by repeat (first | (with_reducible first | exact HB.out | apply zag | apply zae | apply zaf) | exact HB.out)⟩⟩
  case round =>
   clear HINV HN HSS HB HRK
   obtain ⟨x9, x, L, rfl, HV, HN, HSS, HB⟩ := hrel
   obtain ⟨i, hi, hi1, hgm, hgx, hLl, hfx⟩ := HV.out
   clear HV
   have hs1 := HS1.out
   by_cases hlt : i < l1.length
   · have c3b0 : decide (x9 < (l1.length : Int)) = true := zaz (by omega)
     have p1 : 0 ≤ x9 := by omega
     have q1 : x9 < (l1.length : Int) := by omega
     obtain ⟨ad, e1, hx0, hx1, hx2⟩ := at_T39 HR1.out x9 p1 q1
     cases e1
     have hrd : rd_T39 l1 x9 = l1[i] := by
      unfold rd_T39
      rw [hi, Int.toNat_natCast, List.getD_eq_getElem?_getD, List.getElem?_eq_getElem hlt]
      rfl
     rw [List.drop_eq_getElem_cons hlt, ← hrd] at hfx
     clear hrd
     generalize rd_T39 l1 x9 = gg at hx0 hx1 hx2 hfx
     obtain ⟨f0, f1, f2⟩ := gg
     simp only at hx0 hx1 hx2
     replace hx0 := (HB.out.cell (zay w _ hx0)).trans hx0
     replace hx1 := (HB.out.cell (zay w _ hx1)).trans hx1
     replace hx2 := (HB.out.cell (zay w _ hx2)).trans hx2
     replace p1 := eq_true p1
     replace q1 := eq_true q1
     obtain ⟨A6, c6, e6⟩ := Kd.R_slice HN.out
     subst e6
     have HBr := zad (Below.refl wr.heap.size wr)
     have hkf : impl_isKind.f x f0 f1 f2 = some (kindB x f0 f1 f2) := isKind_eq x f0 f1 f2 hgx
     by_cases hk : kindB x f0 f1 f2 = true
     · rw [hk] at hkf
       obtain ⟨hgv1, hgv2, hgy⟩ := kind_step hgx hk
       rw [folA_step L x ⟨f0, f1, f2⟩ _ _ hk] at hfx
       have hst : stepG x ⟨f0, f1, f2⟩ = descL (giveL x f0 f1 f2) := rfl
       rw [hst] at hfx
       have hgz : goodL (descL (giveL x f0 f1 f2)) = true := by rw [good_desc]; exact hgy
       generalize giveL x f0 f1 f2 = y at hgv1 hgv2 hgy hfx hgz
       have hby := (goodL_iff y).1 hgy
       have hrk := ranking_eq (good_sm hgy)
       have HK := zad hkf
       have HGV := zad hgv1
       have HRK := zad hrk
       generalize descL y = z at HRK hgz hfx
       have HIN : Aside0 (FolInv l1 (decide ((l1.length : Int) ≤ 240)) (r1, r2) (l1.length - (i + 1)) (wrap64 (x9 + 1)) z (L ++ [z])) := ⟨i + 1, by rw [w64 (by omega) (by omega)]; omega, by omega, Nat.le_refl _, hgz, by rw [List.length_append]; simp; omega, hfx⟩
       have HM := zad (show l1.length - (i + 1) < gk by omega)
       have HLL := zad (show (L.length + 1) * 24 ≤ 140737488355328 by omega)
       have HSB := zad (Kd.S_mono (ok' := fun k => k < wr.heap.size) (Kd.S_bound HSS.out) (fun k hk => hk.2.2.1))
       clear hk hkf hgv1 hgv2 hgy hgz hfx hst hby hrk hi hi1 hgm hgx hLl hs1 hlt HSS
       go_wp2_with (first | ((with_reducible refine gate_dst (N := 9) rfl ?_); refine box_event ?hg (N := 9) ?hd (cs := #[.int .i64 0, .int .i64 0, .int .i64 0]) (t := 39) ?hr ?_; (case hd => rfl); (case hg => rfl); (case hr => first | (go_simp; done) | (go_simp; rfl)); intro gb hg w8 hbox hb; have GE := zad ((by rw [hg]; exact (below_size (by repeat (first | (with_reducible first | exact HBr.out | apply zag | apply zae | apply zaf) | exact HBr.out))) : wr.heap.size ≤ gb)); have n0_ := zad (below_step (by repeat (first | (with_reducible first | exact HBr.out | apply zag | apply zae | apply zaf) | exact HBr.out)) hb); have BK := zad hbox; clear HBr; have HBr := n0_; clear n0_ hb hbox hg; have hcz0 : w8.cell? ⟨gb, 0, none⟩ = some (.int .i64 0) := (blk_cell BK.out 0).trans rfl; have hcz1 : w8.cell? ⟨gb, 1, none⟩ = some (.int .i64 0) := (blk_cell BK.out 1).trans rfl; have hcz2 : w8.cell? ⟨gb, 2, none⟩ = some (.int .i64 0) := (blk_cell BK.out 2).trans rfl; have hfz0 := blk_frozen BK.out 0; have hfz1 := blk_frozen BK.out 1; have hfz2 := blk_frozen BK.out 2) | ((with_reducible refine gate_callee (f := 98) rfl ?_); refine goesL_ (some 22) rfl rfl Try.func98 (by kernel_rfl) rfl #[.slice A6 x.length c6, .agg #[.int .i64 f0, .int .i64 f1, .int .i64 f2]] rfl (by (try simp only [zat, zau, zav]); first | done | rfl) ?_; (with_reducible refine (impl_isKind.calls _ _ x f0 f1 f2 true _ ?side1 ?side2 HK.out).mono ?_); (case side1 => exact Kd.C_below (Kd.R_reads' HN.out).2.2 (by repeat (first | (with_reducible first | exact HBr.out | apply zag | apply zae | apply zaf | refine zah ?_ GE.out) | exact HBr.out))); (case side2 => exact (Kd.R_reads' HN.out).2.1); rintro e w10 ⟨rfl, hb⟩; refine ⟨_, rfl, ?_⟩; have n0_ := zad (blk_below (g := gb) (o := .cells #[.int .i64 f0, .int .i64 f1, .int .i64 f2] 39 (0, 0)) (by (with_reducible repeat (first | refine blk_drewN ?_ _ | refine blk_drew ?_ | refine blk_alloc ?_ _)); refine blk_put (cs := #[.int .i64 f0, .int .i64 f1, .int .i64 0]) ?_ 2 _ rfl; (with_reducible repeat (first | refine blk_drewN ?_ _ | refine blk_drew ?_ | refine blk_alloc ?_ _)); refine blk_put (cs := #[.int .i64 f0, .int .i64 0, .int .i64 0]) ?_ 1 _ rfl; (with_reducible repeat (first | refine blk_drewN ?_ _ | refine blk_drew ?_ | refine blk_alloc ?_ _)); refine blk_put (cs := #[.int .i64 0, .int .i64 0, .int .i64 0]) ?_ 0 _ rfl; (with_reducible repeat (first | refine blk_drewN ?_ _ | refine blk_drew ?_ | refine blk_alloc ?_ _)); exact BK.out) hb); have n1_ := zad (below_step (by repeat (first | (with_reducible first | exact HBr.out | apply zag | apply zae | apply zaf | refine zah ?_ GE.out) | exact HBr.out)) hb); clear BK HBr hb hcz0 hcz1 hcz2 hfz0 hfz1 hfz2; have BK := n0_; have HBr := n1_; clear n0_ n1_; have hcz0 : w10.cell? ⟨gb, 0, none⟩ = some (.int .i64 f0) := (blk_cell BK.out 0).trans rfl; have hcz1 : w10.cell? ⟨gb, 1, none⟩ = some (.int .i64 f1) := (blk_cell BK.out 1).trans rfl; have hcz2 : w10.cell? ⟨gb, 2, none⟩ = some (.int .i64 f2) := (blk_cell BK.out 2).trans rfl) | ((with_reducible refine gate_callee (f := 105) rfl ?_); refine goesL_ (some 26) rfl rfl Try.func105 (by kernel_rfl) rfl #[.slice A6 x.length c6, .agg #[.int .i64 f0, .int .i64 f1, .int .i64 f2]] rfl (by (try simp only [zat, zau, zav]); first | done | rfl) ?_; (with_reducible refine (impl_given.calls _ _ x f0 f1 f2 y _ ?side1 ?side2 HGV.out).mono ?_); (case side1 => exact Kd.C_below (Kd.R_reads' HN.out).2.2 (by repeat (first | (with_reducible first | exact HBr.out | apply zag | apply zae | apply zaf) | exact HBr.out))); (case side2 => exact (Kd.R_reads' HN.out).2.1); rintro e w12 ⟨v26, rfl, ho, hb⟩; refine ⟨_, rfl, ?_⟩; have HY := zad ho; have n1_ := zad (below_step (by repeat (first | (with_reducible first | exact HBr.out | apply zag | apply zae | apply zaf) | exact HBr.out)) hb); clear BK HBr hb ho hcz0 hcz1 hcz2; have HBr := n1_; clear n1_; obtain ⟨Ay, cy, ey⟩ := Kd.R_slice HY.out; subst ey) | ((with_reducible refine gate_callee (f := 88) rfl ?_); refine goesL_ (some 27) rfl rfl Try.func88 (by kernel_rfl) rfl #[.slice Ay y.length cy] rfl (by (try simp only [zat, zau, zav]); first | done | rfl) ?_; (with_reducible refine (impl_ranking.calls _ _ y z _ ?side1 ?side2 HRK.out).mono ?_); (case side1 => repeat (first | exact (Kd.R_reads' HY.out).2.2 | (with_reducible refine zal ?_ _) | (with_reducible refine zam ?_ _) | (with_reducible refine zan ?_))); (case side2 => exact (Kd.R_reads' HY.out).2.1); rintro e w14 ⟨v27, rfl, ho, hb⟩; refine ⟨_, rfl, ?_⟩; have hsz := below_size (by repeat (first | (with_reducible first | exact HBr.out | apply zag | apply zae | apply zaf) | exact HBr.out)); have HZ := zad (Kd.R_mono (ok' := fun k => wr.heap.size ≤ k) (Kd.R_lower (Kd.R_bound ho) (Nat.le_trans HB.out.size hsz)) (fun k hk => Nat.le_trans hsz hk.2.1)); have n1_ := zad (below_step (by repeat (first | (with_reducible first | exact HBr.out | apply zag | apply zae | apply zaf) | exact HBr.out)) hb); clear HBr hb ho HY hsz; have HBr := n1_; clear n1_; obtain ⟨Az, cz, ez⟩ := Kd.R_slice HZ.out; subst ez) | ((with_reducible refine gate_builtin (b := .append) (xs := #[.tmp 28, .tmp 30]) rfl ?_); at_builtin; refine Kd.S_append (Kd.slice 3 (Kd.int .i64)) (w0 := w) w.heap.size rfl (.tmp 28) (.tmp 30) 55 26 (.slice none 0 0) 24 rfl Try.underlying55 info26 rfl (by decide) (by omega) _ L z [.slice Az z.length cz] (fun _ => True) (fun k_ => some k_ = (.slice Az z.length cz : Value).ownBlock) rfl rfl ?aP ?aK ?aF ?aO ?aB ?aS ?aL ?_; (case aP => exact Kd.M_row (Kd.R_mono (Kd.R_tight rfl (by (with_reducible repeat (first | apply zai | apply zaj | apply zak)); exact HZ.out)) (fun _ h_ => h_))); (case aK => exact fun k_ hk_ => ⟨trivial, fun e_ => by have q1_ := HZ.out.1 k_ hk_.symm; have q2_ := Kd.S_lt HSB.out k_ e_.symm; omega⟩); (case aF => exact fun _ _ => trivial); (case aO => exact Kd.S_mono (Kd.S_below HSB.out (by repeat (first | (with_reducible first | exact HBr.out | apply zag | apply zae | apply zaf) | exact HBr.out))) (fun k_ hk_ => ⟨trivial, fun e_ => by have q1_ := HZ.out.1 k_ e_.symm; omega⟩)); (case aB => exact below_step HB.out (by repeat (first | (with_reducible first | exact HBr.out | apply zag | apply zae | apply zaf) | exact HBr.out))); (case aS => exact Nat.le_trans HB.out.size (below_size (by repeat (first | (with_reducible first | exact HBr.out | apply zag | apply zae | apply zaf) | exact HBr.out)))); (case aL => exact HLL.out); intro v31 w31 ho hb hg hat; have HS2 := zad ho; have HB2 := zad hb; have HN2 := zad (Kd.R_mono (ok' := fun _ => True) (Kd.R_grown (by (with_reducible repeat (first | apply zai | apply zaj | apply zak)); exact HZ.out) hg (fun k_ hk_ e_ => by have q2_ := Kd.S_lt HSB.out k_ e_.symm; omega)) (fun _ _ => trivial)); clear ho hb hg hat HZ HSB HBr))
       go_roundg (l1.length - (i + 1))
       case measure => exact HM.out
       case rel => exact ⟨_, z, L ++ [z], (by first | rfl | (simp; done) | (simp [*]; done)), HIN, ⟨by (with_reducible repeat (first | apply zai | apply zaj | apply zak)); exact HN2.out⟩, ⟨by (with_reducible repeat (first | apply Kd.S_alloc | apply Kd.S_drewN | apply Kd.S_drew)); exact HS2.out⟩, ⟨by repeat (first | (with_reducible first | exact HB2.out | apply zag | apply zae | apply zaf) | exact HB2.out)⟩⟩
     · rw [Bool.eq_false_iff.2 hk] at hkf
       rw [folA_none L x ⟨f0, f1, f2⟩ _ _ hk] at hfx
       obtain ⟨e1, e2⟩ := Prod.mk.inj hfx
       subst e1
       subst e2
       have HK := zad hkf
       clear hk hkf hfx hi hi1 hgm hgx hLl hs1 hlt HSS
       go_wp2_with (first | ((with_reducible refine gate_dst (N := 9) rfl ?_); refine box_event ?hg (N := 9) ?hd (cs := #[.int .i64 0, .int .i64 0, .int .i64 0]) (t := 39) ?hr ?_; (case hd => rfl); (case hg => rfl); (case hr => first | (go_simp; done) | (go_simp; rfl)); intro gb hg w8 hbox hb; have GE := zad ((by rw [hg]; exact (below_size (by repeat (first | (with_reducible first | exact HBr.out | apply zag | apply zae | apply zaf) | exact HBr.out))) : wr.heap.size ≤ gb)); have n0_ := zad (below_step (by repeat (first | (with_reducible first | exact HBr.out | apply zag | apply zae | apply zaf) | exact HBr.out)) hb); have BK := zad hbox; clear HBr; have HBr := n0_; clear n0_ hb hbox hg; have hcz0 : w8.cell? ⟨gb, 0, none⟩ = some (.int .i64 0) := (blk_cell BK.out 0).trans rfl; have hcz1 : w8.cell? ⟨gb, 1, none⟩ = some (.int .i64 0) := (blk_cell BK.out 1).trans rfl; have hcz2 : w8.cell? ⟨gb, 2, none⟩ = some (.int .i64 0) := (blk_cell BK.out 2).trans rfl; have hfz0 := blk_frozen BK.out 0; have hfz1 := blk_frozen BK.out 1; have hfz2 := blk_frozen BK.out 2) | ((with_reducible refine gate_callee (f := 98) rfl ?_); refine goesL_ (some 22) rfl rfl Try.func98 (by kernel_rfl) rfl #[.slice A6 x.length c6, .agg #[.int .i64 f0, .int .i64 f1, .int .i64 f2]] rfl (by (try simp only [zat, zau, zav]); first | done | rfl) ?_; (with_reducible refine (impl_isKind.calls _ _ x f0 f1 f2 false _ ?side1 ?side2 HK.out).mono ?_); (case side1 => exact Kd.C_below (Kd.R_reads' HN.out).2.2 (by repeat (first | (with_reducible first | exact HBr.out | apply zag | apply zae | apply zaf | refine zah ?_ GE.out) | exact HBr.out))); (case side2 => exact (Kd.R_reads' HN.out).2.1); rintro e w10 ⟨rfl, hb⟩; refine ⟨_, rfl, ?_⟩; have n1_ := zad (below_step (by repeat (first | (with_reducible first | exact HBr.out | apply zag | apply zae | apply zaf | refine zah ?_ GE.out) | exact HBr.out)) hb); clear HBr hb; have HBr := n1_; clear n1_))
       go_ret2
       exact ⟨_, rfl, Kd.S_nil _ _ _ _ _, below_step HB.out (by repeat (first | (with_reducible first | exact HBr.out | apply zag | apply zae | apply zaf) | exact HBr.out))⟩
   · have hil : i = l1.length := by omega
     rw [hil, List.drop_eq_nil_of_le (Nat.le_refl _)] at hfx
     have c3b0 : decide (x9 < (l1.length : Int)) = false := decide_eq_false (by omega)
     obtain ⟨e1, e2⟩ := Prod.mk.inj hfx
     rw [List.append_nil] at e1
     subst e1
     subst e2
     clear hfx hi hi1 hgm hgx hLl hlt hil hs1
     go_wp2
     go_ret2
     exact ⟨_, rfl, by (with_reducible repeat (first | apply Kd.S_alloc | apply Kd.S_drewN | apply Kd.S_drew)); exact HSS.out, by repeat (first | (with_reducible first | exact HB.out | apply zag | apply zae | apply zaf) | exact HB.out)⟩
 next => cases h
theorem foldl_add : ∀ (l : List Int) (s : Int), l.foldl (fun s x => s + x) s = s + l.sum
 | [], s => by simp
 | x :: l, s => by
  rw [List.foldl_cons, foldl_add l, List.sum_cons]
  omega
theorem liSum_ev (l : List Int) (h : Sm l) : Ev (fun k => spec_liSum.f k l) l.sum := by
 unfold spec_liSum.f
 have hl := h.1
 have h := ev_fold (xs := l) (g := fun k s i => spec_liSum.l0 k s l (l.length : Int) i) (fun s x => s + x) (fun s i => 0 ≤ s ∧ s ≤ 1000 * (i : Int)) id
  (fun s _ => Ev.succ (by simp only [spec_liSum.l0, if_neg (Int.lt_irrefl _)]; exact Ev.now _))
  (fun i hi s r hs _ hr => Ev.succ (by
   have hb := h.2 _ (List.getElem_mem hi)
   simp only [spec_liSum.l0, if_pos (show (i : Int) < (l.length : Int) by omega), if_pos (show (0 : Int) ≤ (i : Int) by omega), rdn hi, wsucc hi (by omega), w64 (x := s + l[i]) (by omega) (by omega)]
   exact hr))
  (fun i hi s hs => by
   have hb := h.2 _ (List.getElem_mem hi)
   omega) l.length 0 0 (by omega) (by omega)
 rw [List.drop_zero, foldl_add, Int.zero_add] at h
 exact h
theorem total_ev (l : List Int) (h : Sm l) : Ev (fun k => impl_total.f k l) l.sum := by
 unfold impl_total.f
 have hl := h.1
 have h := ev_fold (xs := l) (g := fun k s i => impl_total.l0 k s l (l.length : Int) i) (fun s x => s + x) (fun s i => 0 ≤ s ∧ s ≤ 1000 * (i : Int)) id
  (fun s _ => Ev.succ (by simp only [impl_total.l0, if_neg (Int.lt_irrefl _)]; exact Ev.now _))
  (fun i hi s r hs _ hr => Ev.succ (by
   have hb := h.2 _ (List.getElem_mem hi)
   simp only [impl_total.l0, if_pos (show (i : Int) < (l.length : Int) by omega), if_pos (show (0 : Int) ≤ (i : Int) by omega), rdn hi, wsucc hi (by omega), w64 (x := s + l[i]) (by omega) (by omega)]
   exact hr))
  (fun i hi s hs => by
   have hb := h.2 _ (List.getElem_mem hi)
   omega) l.length 0 0 (by omega) (by omega)
 rw [List.drop_zero, foldl_add, Int.zero_add] at h
 exact h
def fitB (a b : List Int) : Bool := if (a.length : Int) = (b.length : Int) then (a.sum == b.sum) else false
theorem fitB_iff (a b : List Int) : fitB a b = true ↔ a.length = b.length ∧ a.sum = b.sum := by
 unfold fitB
 by_cases h : (a.length : Int) = (b.length : Int)
 · rw [if_pos h, beq_iff_eq]
   exact ⟨fun h' => ⟨by omega, h'⟩, fun h' => h'.2⟩
 · rw [if_neg h]
   exact ⟨fun h' => absurd h' (by decide), fun h' => absurd h'.1 (by omega)⟩
theorem liFit_ev (a b : List Int) (ha : Sm a) (hb : Sm b) : Ev (fun k => spec_liFit.f k a b) (fitB a b) := by
 unfold spec_liFit.f fitB
 exact Ev.ite (fun _ => Ev.bind (liSum_ev a ha) (Ev.bind (liSum_ev b hb) (Ev.now _))) (fun _ => Ev.now _)
theorem doFit_ev (a b : List Int) (ha : Sm a) (hb : Sm b) : Ev (fun k => impl_doFit.f k a b) (fitB a b) := by
 unfold impl_doFit.f fitB
 exact Ev.ite (fun _ => Ev.bind (total_ev a ha) (Ev.bind (total_ev b hb) (Ev.now _))) (fun _ => Ev.now _)
theorem areLists_ev (a b : List Int) (ha : a.length ≤ 1048576) (hb : b.length ≤ 1048576) : Ev (fun k => impl_areLists.f k a b) (if goodL a = true then goodL b else false) := by
 unfold impl_areLists.f
 exact Ev.bind (implIsList_ev a (by omega)) (Ev.ite (fun _ => Ev.bind (implIsList_ev b (by omega)) (Ev.now _)) (fun _ => Ev.now _))
theorem slEqual_l (xs ys : List Int) (hx : xs.length ≤ 9223372036854775807) (hl : xs.length = ys.length) : ∀ (n i : Nat), i + n = xs.length → Ev (fun k => slices_Equal_int_int.l0 k xs ys (xs.length : Int) (i : Int)) (decide (xs.drop i = ys.drop i))
 | 0, i, h => by
  refine Ev.succ ?_
  simp only [slices_Equal_int_int.l0, if_neg (show ¬ (i : Int) < (xs.length : Int) by omega)]
  rw [List.drop_eq_nil_of_le (by omega), List.drop_eq_nil_of_le (by omega)]
  exact Ev.now _
 | n + 1, i, h => by
  have hi : i < xs.length := by omega
  have hj : i < ys.length := by omega
  refine Ev.succ ?_
  simp only [slices_Equal_int_int.l0, if_pos (show (i : Int) < (xs.length : Int) by omega), if_pos (show (i : Int) < (ys.length : Int) by omega), if_pos (show (0 : Int) ≤ (i : Int) by omega), rdn hi, rdn hj, wsucc hi hx]
  rw [List.drop_eq_getElem_cons hi, List.drop_eq_getElem_cons hj]
  by_cases c : xs[i] = ys[i]
  · simp only [c, if_true, List.cons.injEq, true_and]
    exact slEqual_l xs ys hx hl n (i + 1) (by omega)
  · simp only [c, if_false, List.cons.injEq, false_and, decide_false]
    exact Ev.now _
theorem slEqual_ev (xs ys : List Int) (hx : xs.length ≤ 9223372036854775807) : Ev (fun k => slices_Equal_int_int.f k xs ys) (decide (xs = ys)) := by
 unfold slices_Equal_int_int.f
 by_cases h : xs.length = ys.length
 · simp only [if_pos (show (xs.length : Int) = (ys.length : Int) by omega)]
   exact slEqual_l xs ys hx h xs.length 0 (by omega)
 · simp only [if_neg (show ¬ (xs.length : Int) = (ys.length : Int) by omega)]
   rw [decide_eq_false (fun e => h (by rw [e]))]
   exact Ev.now _
set_option maxHeartbeats 4000000 in
set_option maxRecDepth 100000 in
theorem igp_row (B : Nat) (A0 : Option Addr) (c0 : Nat) (l0 : List Int) (f0 f1 f2 : Int) (W : World) (hl : l0.length ≤ 1048576) (hB : W.cell? ⟨B, 0, none⟩ = some (.slice A0 l0.length c0)) (hr : Kd.C (Kd.int .i64) W A0 l0.length l0) (hc : l0.length ≤ c0) :
 Calls Try.prog 133 #[.agg #[.int .i64 f0, .int .i64 f1, .int .i64 f2], .pointer (some ⟨B, 0, none⟩)] W fun e w' => e = .returned (.bool (!isG l0 f0 f1 f2)) ∧ Below W.heap.size W w' := by
 have HK := zad (isGift_eq l0 f0 f1 f2 hl)
 have HR := zad hr
 have HC := zad hc
 have HB := zad (Below.refl W.heap.size W)
 generalize isG l0 f0 f1 f2 = b at HK ⊢
 clear hr hc hl
 go_enter Try.func133, Try.ntmps133
 go_wp2_with (first | ((with_reducible refine gate_dst (N := 2) rfl ?_); refine box_event ?hg (N := 2) ?hd (cs := #[.int .i64 f0, .int .i64 f1, .int .i64 f2]) (t := 39) ?hr ?_; (case hd => rfl); (case hg => rfl); (case hr => first | (go_simp; done) | (go_simp; rfl)); intro gb hg w8 hbox hb; have hB2 := pw_cell_below hb hB; have BK := zad hbox; have HB2 := zad (below_step (by repeat (first | (with_reducible first | exact HB.out | apply zag | apply zae | apply zaf) | exact HB.out)) hb); clear hbox hb hg HB hB; have HB := HB2; clear HB2; have hcz0 : w8.cell? ⟨gb, 0, none⟩ = some (.int .i64 f0) := (blk_cell BK.out 0).trans rfl; have hcz1 : w8.cell? ⟨gb, 1, none⟩ = some (.int .i64 f1) := (blk_cell BK.out 1).trans rfl; have hcz2 : w8.cell? ⟨gb, 2, none⟩ = some (.int .i64 f2) := (blk_cell BK.out 2).trans rfl) | (go_at_call 102; (with_reducible refine (impl_isGift.calls _ _ l0 f0 f1 f2 b _ ?side1 ?side2 HK.out).mono ?_); (case side1 => exact Kd.C_below HR.out (by repeat (first | (with_reducible first | exact HB.out | apply zag | apply zae | apply zaf) | exact HB.out))); (case side2 => exact HC.out); rintro e w1 ⟨rfl, hb⟩; have HB2 := zad (below_step (by repeat (first | (with_reducible first | exact HB.out | apply zag | apply zae | apply zaf) | exact HB.out)) hb); clear hb HB; have HB := HB2; clear HB2))
 go_ret
 exact ⟨by first | rfl | simp, by repeat (first | (with_reducible first | exact HB.out | apply zag | apply zae | apply zaf) | exact HB.out)⟩
def IdxInv (xs : List S39) (ps : S39 → Bool) (g : Nat) (x8 : Int) : Prop := ∃ i : Nat, x8 = (i : Int) ∧ i ≤ xs.length ∧ xs.length - i ≤ g ∧ ∀ j (h : j < xs.length), j < i → ps xs[j] = false
def SomeIdx (xs : List S39) (ps : S39 → Bool) (W : World) (e : Ending) (w' : World) : Prop := ∃ i : Int, e = .returned (.int .i64 i) ∧ decide (0 ≤ i) = xs.any ps ∧ Below W.heap.size W w'
set_option maxHeartbeats 4000000 in
set_option maxRecDepth 100000 in
theorem gift_idx (A : Option Addr) (c : Nat) (xs : List S39) (ps : S39 → Bool) (B : Nat) (W : World) (hbig : xs.length ≤ 1048576) (hr : Kd.C k39 W A xs.length xs) (hcall : ∀ (g : S39) (W' : World), Below W.heap.size W W' → Calls Try.prog 133 #[.agg #[.int .i64 g.f0, .int .i64 g.f1, .int .i64 g.f2], .pointer (some ⟨B, 0, none⟩)] W' fun e w'' => e = .returned (.bool (ps g)) ∧ Below W'.heap.size W' w'') :
 Calls Try.prog 154 #[.slice A xs.length c, .func (.func 133) #[] #[.pointer (some ⟨B, 0, none⟩)]] W (SomeIdx xs ps W) := by
 have HR := zad hr
 have HF := zad hcall
 have HX := zad hbig
 have HB := zad (Below.refl W.heap.size W)
 clear hr hcall hbig
 have hu39 := Try.underlying39
 go_enter Try.func154, Try.ntmps154
 go_wp2
 go_loopg [5, 8] xs.length (fun gg _ v8 wr => ∃ x8 : Int, v8 = .int .i64 x8 ∧ Aside0 (IdxInv xs ps gg x8) ∧ Aside0 (Below W.heap.size W wr))
 case atStart => exact ⟨0, rfl, ⟨0, rfl, Nat.zero_le _, by omega, fun j _ hj => absurd hj (Nat.not_lt_zero _)⟩, ⟨by repeat (first | (with_reducible first | exact HB.out | apply zag | apply zae | apply zaf) | exact HB.out)⟩⟩
 case round =>
  clear HB
  obtain ⟨x8, rfl, HV, HB⟩ := hrel
  obtain ⟨i, hi, hi1, hgm, hpre⟩ := HV.out
  clear HV
  have hbig := HX.out
  by_cases hlt : i < xs.length
  · have c3b0 : decide (x8 < (xs.length : Int)) = true := zaz (by omega)
    have p1 : 0 ≤ x8 := by omega
    have q1 : x8 < (xs.length : Int) := by omega
    obtain ⟨ad, e1, hx0, hx1, hx2⟩ := at_T39 HR.out x8 p1 q1
    cases e1
    have hrd : rd_T39 xs x8 = xs[i] := by
     unfold rd_T39
     rw [hi, Int.toNat_natCast, List.getD_eq_getElem?_getD, List.getElem?_eq_getElem hlt]
     rfl
    generalize rd_T39 xs x8 = gg at hx0 hx1 hx2 hrd
    have hca := HF.out gg
    cases hq : ps gg with
    | true =>
     have HQ : Aside0 (decide (0 ≤ x8) = xs.any ps) := ⟨by
      rw [zaz p1, eq_comm, List.any_eq_true]
      exact ⟨xs[i], List.getElem_mem hlt, by rw [← hrd]; exact hq⟩⟩
     rw [hq] at hca
     have HCA := zad hca
     obtain ⟨f0, f1, f2⟩ := gg
     simp only at hx0 hx1 hx2
     replace hx0 := (HB.out.cell (zay W _ hx0)).trans hx0
     replace hx1 := (HB.out.cell (zay W _ hx1)).trans hx1
     replace hx2 := (HB.out.cell (zay W _ hx2)).trans hx2
     replace p1 := eq_true p1
     replace q1 := eq_true q1
     clear hi hi1 hgm hpre hbig hlt hca hq hrd
     go_wp2_with (go_at_call 133; refine (HCA.out _ (by repeat (first | (with_reducible first | exact HB.out | apply zag | apply zae | apply zaf) | exact HB.out))).mono ?_; rintro e w' ⟨rfl, hb⟩; have HB2 := zad (below_step (by repeat (first | (with_reducible first | exact HB.out | apply zag | apply zae | apply zaf) | exact HB.out)) hb); clear hb HB; have HB := HB2; clear HB2)
     go_ret
     exact ⟨_, rfl, HQ.out, by repeat (first | (with_reducible first | exact HB.out | apply zag | apply zae | apply zaf) | exact HB.out)⟩
    | false =>
     have HIN : Aside0 (IdxInv xs ps (xs.length - (i + 1)) (wrap64 (x8 + 1))) := ⟨i + 1, by rw [w64 (by omega) (by omega)]; omega, by omega, Nat.le_refl _, fun j hj hj2 => by
      by_cases e : j = i
      · subst e
        rw [← hrd]
        exact hq
      · exact hpre j hj (by omega)⟩
     have HM := zad (show xs.length - (i + 1) < gk by omega)
     rw [hq] at hca
     have HCA := zad hca
     obtain ⟨f0, f1, f2⟩ := gg
     simp only at hx0 hx1 hx2
     replace hx0 := (HB.out.cell (zay W _ hx0)).trans hx0
     replace hx1 := (HB.out.cell (zay W _ hx1)).trans hx1
     replace hx2 := (HB.out.cell (zay W _ hx2)).trans hx2
     replace p1 := eq_true p1
     replace q1 := eq_true q1
     clear hi hi1 hgm hpre hbig hca hq hrd
     go_wp2_with (go_at_call 133; refine (HCA.out _ (by repeat (first | (with_reducible first | exact HB.out | apply zag | apply zae | apply zaf) | exact HB.out))).mono ?_; rintro e w' ⟨rfl, hb⟩; have HB2 := zad (below_step (by repeat (first | (with_reducible first | exact HB.out | apply zag | apply zae | apply zaf) | exact HB.out)) hb); clear hb HB; have HB := HB2; clear HB2)
     go_roundg (xs.length - (i + 1))
     case measure => exact HM.out
     case rel => exact ⟨_, (by first | rfl | (simp; done) | (simp [*]; done)), HIN, ⟨by repeat (first | (with_reducible first | exact HB.out | apply zag | apply zae | apply zaf) | exact HB.out)⟩⟩
  · have hil : i = xs.length := by omega
    have c3b0 : decide (x8 < (xs.length : Int)) = false := decide_eq_false (by omega)
    have HQ : Aside0 (decide (0 ≤ (-1 : Int)) = xs.any ps) := ⟨by
     rw [decide_eq_false (by decide), eq_comm, List.any_eq_false]
     intro x hx
     obtain ⟨j, hj, rfl⟩ := List.mem_iff_getElem.1 hx
     rw [hpre j hj (by omega)]
     decide⟩
    clear hi hi1 hgm hpre hbig hlt hil
    go_wp2
    go_ret
    exact ⟨_, rfl, HQ.out, by repeat (first | (with_reducible first | exact HB.out | apply zag | apply zae | apply zaf) | exact HB.out)⟩
set_option maxHeartbeats 4000000 in
set_option maxRecDepth 100000 in
theorem gift_has (A : Option Addr) (c : Nat) (xs : List S39) (ps : S39 → Bool) (B : Nat) (W : World) (hbig : xs.length ≤ 1048576) (hr : Kd.C k39 W A xs.length xs) (hcall : ∀ (g : S39) (W' : World), Below W.heap.size W W' → Calls Try.prog 133 #[.agg #[.int .i64 g.f0, .int .i64 g.f1, .int .i64 g.f2], .pointer (some ⟨B, 0, none⟩)] W' fun e w'' => e = .returned (.bool (ps g)) ∧ Below W'.heap.size W' w'') :
 Calls Try.prog 132 #[.slice A xs.length c, .func (.func 133) #[] #[.pointer (some ⟨B, 0, none⟩)]] W fun e w' => e = .returned (.bool (xs.any ps)) ∧ Below W.heap.size W w' := by
 have HI := zad (gift_idx A c xs ps B W hbig hr hcall)
 clear hbig hr hcall
 go_enter Try.func132, Try.ntmps132
 go_wp2_with (go_at_call 154; refine HI.out.mono ?_; rintro e w1 ⟨i, rfl, hi, hb⟩; have HD := zad hi; have HB := zad hb; clear hi hb)
 go_ret
 exact ⟨by first | (rw [← HD.out]; rfl) | (simp [HD.out]) | rfl, HB.out⟩
theorem folM_len {x : List Int} {p : List S39} {M : List (List Int)} (h : foll x p = some M) : M.length = p.length := by
 induction p generalizing x M with
 | nil =>
  have : some [] = some M := h
  obtain rfl := Option.some.inj this
  rfl
 | cons g p ih =>
  have e : foll x (g :: p) = if kindB x g.f0 g.f1 g.f2 = true then (foll (stepG x g) p).map (stepG x g :: ·) else none := rfl
  rw [e] at h
  by_cases c : kindB x g.f0 g.f1 g.f2 = true
  · rw [if_pos c] at h
    obtain ⟨N, h1, h2⟩ := Option.map_eq_some_iff.1 h
    rw [← h2, List.length_cons, List.length_cons, ih h1]
  · rw [if_neg c] at h
    cases h
theorem slEqual_ev' (x y : List Int) (hy : y.length ≤ 1000) : Ev (fun k => slices_Equal_int_int.f k x y) (decide (x = y)) := by
 by_cases h : x.length ≤ 1000000
 · exact slEqual_ev x y (by omega)
 · unfold slices_Equal_int_int.f
   simp only [if_neg (show ¬ (x.length : Int) = (y.length : Int) by omega)]
   rw [decide_eq_false (fun e => h (by rw [e]; omega))]
   exact Ev.now _
def lastR (L : List (List Int)) : List Int := L.getD (L.length - 1) []
def igpM (a b : List Int) (p : List S39) : Bool × Bool := match foll (descL b) p with
 | some M => (decide (lastR (descL b :: M) = descL a), true)
 | none => (false, true)
def igpR (a b : List Int) (p : List S39) : Bool × Bool := if (if goodL a = true then goodL b else false) = true then (if fitB a b = true then (if (p.length : Int) > 240 then (false, false) else (if (p.any fun g => !isG b g.f0 g.f1 g.f2) = true then (false, false) else igpM a b p)) else (false, false)) else (false, false)
def impl_IsGiftPath.f (l0 : List Int) (l1 : List Int) (l2 : List S39) : Option (Bool × Bool) := if l0.length ≤ 1048576 ∧ l1.length ≤ 1048576 ∧ l2.length ≤ 1048576 then some (igpR l0 l1 l2) else none
def impl_IsGiftPath.T6 : Bool × List (List Nat × List Nat) := (true, [([], []), ([0], [0]), ([1], [1]), ([1], [1]), ([3, 1], [1, 3]), ([4, 1], [1, 4]), ([2, 5, 1], [1, 2, 5]), ([6, 1], [1, 6]), ([1], [1]), ([8, 1, 1], [1, 8]), ([7, 9, 9, 1], [1, 7, 9]), ([1, 10], [1, 10]), ([11, 10, 0, 1, 2, 3, 4, 5, 6, 7, 8, 9, 10, 11], [11]), ([12, 0, 1, 2, 3, 4, 5, 6, 7, 8, 9, 10, 11, 12], [])])
def impl_IsGiftPath.B6 : List Nat := [0, 1, 3, 3, 11, 27, 63, 127, 3, 259, 1023, 2047, 4095, 8191]
theorem impl_IsGiftPath.tab6 : rtab .any (opsOf Try.f63 6) = impl_IsGiftPath.T6 := by kernel_rfl
theorem impl_IsGiftPath.bits6 : waitsOk impl_IsGiftPath.T6.2 impl_IsGiftPath.B6 = true := by kernel_rfl
set_option maxHeartbeats 8000000 in
set_option maxRecDepth 100000 in
theorem impl_IsGiftPath.calls (A0 : Option Addr) (c0 : Nat) (l0 : List Int) (A1 : Option Addr) (c1 : Nat) (l1 : List Int) (A2 : Option Addr) (c2 : Nat) (l2 : List S39) (r1 : Bool) (r2 : Bool) (w : World) (hr0 : Kd.C (Kd.int .i64) w A0 l0.length l0) (hc0 : l0.length ≤ c0) (hr1 : Kd.C (Kd.int .i64) w A1 l1.length l1) (hc1 : l1.length ≤ c1) (hr2 : Kd.C k39 w A2 l2.length l2) (hc2 : l2.length ≤ c2) (h : impl_IsGiftPath.f l0 l1 l2 = some (r1, r2)) :
 Calls Try.prog 63 #[.slice A0 l0.length c0, .slice A1 l1.length c1, .slice A2 l2.length c2] w fun e w' => e = .returned (.tuple #[.bool r1, .bool r2]) ∧ Below w.heap.size w w' := by
 unfold impl_IsGiftPath.f at h
 split at h
 next hs =>
  obtain ⟨hs0, hs1, hs2⟩ := hs
  have h := Option.some.inj h
  obtain ⟨k1, hA⟩ := Ev.get (areLists_ev l0 l1 hs0 hs1)
  have HR0 := zad hr0
  have HC0 := zad hc0
  have HR1 := zad hr1
  have HC1 := zad hc1
  have HR2 := zad hr2
  have HC2 := zad hc2
  have AA := zad hA
  have HB0 := zad (Below.refl w.heap.size w)
  have HS0 := zad hs0
  have HS1 := zad hs1
  have HS2 := zad hs2
  clear hr0 hc0 hr1 hc1 hr2 hc2 hA hs0 hs1 hs2
  unfold igpR at h
  by_cases a : (if goodL l0 = true then goodL l1 else false) = true
  · rw [if_pos a] at h
    rw [a] at AA
    have hg : goodL l0 = true ∧ goodL l1 = true := by
     by_cases g : goodL l0 = true
     · rw [if_pos g] at a
       exact ⟨g, a⟩
     · rw [if_neg g] at a
       cases a
    obtain ⟨k2, hF⟩ := Ev.get (doFit_ev l0 l1 (good_sm hg.1) (good_sm hg.2))
    have AF := zad hF
    clear hF
    by_cases f : fitB l0 l1 = true
    · rw [if_pos f] at h
      rw [f] at AF
      by_cases n : (l2.length : Int) > 240
      · rw [if_pos n] at h
        obtain ⟨e1, e2⟩ := Prod.mk.inj h
        subst e1
        subst e2
        have n1 : decide (240 < (l2.length : Int)) = true := zaz n
        have n2 : decide (240 < l2.length) = true := zaz (by omega)
        clear a f n h hg
        go_enter Try.func63, Try.ntmps63
        go_wp2_with (first | (go_at_call 107; (with_reducible refine (impl_areLists.calls k1 _ _ l0 _ _ l1 true _ ?side1 ?side2 ?side3 ?side4 AA.out).mono ?_); (case side1 => repeat (first | exact HR0.out | (with_reducible refine zal ?_ _) | (with_reducible refine zam ?_ _) | (with_reducible refine zan ?_))); (case side2 => exact HC0.out); (case side3 => repeat (first | exact HR1.out | (with_reducible refine zal ?_ _) | (with_reducible refine zam ?_ _) | (with_reducible refine zan ?_))); (case side4 => exact HC1.out); rintro e w' ⟨rfl, ⟨nd, rfl⟩⟩) | (go_at_call 112; (with_reducible refine (impl_doFit.calls k2 _ _ l0 _ _ l1 true _ ?side1 ?side2 ?side3 ?side4 AF.out).mono ?_); (case side1 => repeat (first | exact HR0.out | (with_reducible refine zal ?_ _) | (with_reducible refine zam ?_ _) | (with_reducible refine zan ?_))); (case side2 => exact HC0.out); (case side3 => repeat (first | exact HR1.out | (with_reducible refine zal ?_ _) | (with_reducible refine zam ?_ _) | (with_reducible refine zan ?_))); (case side4 => exact HC1.out); rintro e w' ⟨rfl, ⟨nd, rfl⟩⟩))
        go_ret2
        exact ⟨rfl, by repeat (first | (with_reducible first | exact HB0.out | apply zag | apply zae | apply zaf) | exact HB0.out)⟩
      · rw [if_neg n] at h
        have n1 : decide (240 < (l2.length : Int)) = false := decide_eq_false n
        have n2 : decide (240 < l2.length) = false := decide_eq_false (by omega)
        have HCON : Aside0 (∀ q, Calls Try.prog 132 #[.slice A2 l2.length c2, .func (.func 133) #[] #[.pointer (some ⟨w.heap.size, 0, none⟩)]] ((w.alloc (.cells #[.slice A1 l1.length c1] 26)).drewN q) fun e w' => e = .returned (.bool (l2.any fun g => !isG l1 g.f0 g.f1 g.f2)) ∧ Below ((w.alloc (.cells #[.slice A1 l1.length c1] 26)).drewN q).heap.size ((w.alloc (.cells #[.slice A1 l1.length c1] 26)).drewN q) w') := ⟨fun q => gift_has A2 c2 l2 (fun g => !isG l1 g.f0 g.f1 g.f2) w.heap.size _ HS2.out (Kd.C_below HR2.out (zae (zag HB0.out _) q)) (fun g W' hb => igp_row w.heap.size A1 c1 l1 g.f0 g.f1 g.f2 W' HS1.out (pw_cell_below hb (by show (w.alloc (.cells #[.slice A1 l1.length c1] 26)).cell? ⟨w.heap.size, 0, none⟩ = _; simp)) (Kd.C_below HR1.out (below_step (zae (zag HB0.out _) q) hb)) HC1.out)⟩
        by_cases g : (l2.any fun g => !isG l1 g.f0 g.f1 g.f2) = true
        · rw [if_pos g] at h
          rw [g] at HCON
          obtain ⟨e1, e2⟩ := Prod.mk.inj h
          subst e1
          subst e2
          clear a f n h hg g
          go_enter Try.func63, Try.ntmps63
          go_wp2_with (first | (go_at_call 107; (with_reducible refine (impl_areLists.calls k1 _ _ l0 _ _ l1 true _ ?side1 ?side2 ?side3 ?side4 AA.out).mono ?_); (case side1 => repeat (first | exact HR0.out | (with_reducible refine zal ?_ _) | (with_reducible refine zam ?_ _) | (with_reducible refine zan ?_))); (case side2 => exact HC0.out); (case side3 => repeat (first | exact HR1.out | (with_reducible refine zal ?_ _) | (with_reducible refine zam ?_ _) | (with_reducible refine zan ?_))); (case side4 => exact HC1.out); rintro e w' ⟨rfl, ⟨nd, rfl⟩⟩) | (go_at_call 112; (with_reducible refine (impl_doFit.calls k2 _ _ l0 _ _ l1 true _ ?side1 ?side2 ?side3 ?side4 AF.out).mono ?_); (case side1 => repeat (first | exact HR0.out | (with_reducible refine zal ?_ _) | (with_reducible refine zam ?_ _) | (with_reducible refine zan ?_))); (case side2 => exact HC0.out); (case side3 => repeat (first | exact HR1.out | (with_reducible refine zal ?_ _) | (with_reducible refine zam ?_ _) | (with_reducible refine zan ?_))); (case side4 => exact HC1.out); rintro e w' ⟨rfl, ⟨nd, rfl⟩⟩) | (go_at_call 132; refine (HCON.out _).mono ?_; rintro e w1 ⟨rfl, hb⟩; have HB := zad (below_step (zae (zag HB0.out _) _) hb); have hcb := pw_cell_below hb (show (World.drewN (w.alloc (.cells #[.slice A1 l1.length c1] 26)) _).cell? ⟨w.heap.size, 0, none⟩ = some (.slice A1 l1.length c1) from by show (w.alloc (.cells #[.slice A1 l1.length c1] 26)).cell? ⟨w.heap.size, 0, none⟩ = _; simp); clear hb))
          go_ret2
          exact ⟨rfl, by repeat (first | (with_reducible first | exact HB.out | apply zag | apply zae | apply zaf) | exact HB.out)⟩
        · rw [if_neg g] at h
          rw [Bool.eq_false_iff.2 g] at HCON
          unfold igpM at h
          have hfo : impl_follow.f l1 l2 = some (folA [descL l1] (foll (descL l1) l2) (decide ((l2.length : Int) ≤ 240))) := by
           unfold impl_follow.f
           rw [if_pos ⟨hg.2, HS2.out⟩]
          rw [zaz (show (l2.length : Int) ≤ 240 by omega)] at hfo
          have hrk := ranking_eq (good_sm hg.1)
          cases hm : foll (descL l1) l2 with
          | some M =>
           rw [hm] at h hfo
           simp only [folA, List.singleton_append] at h hfo
           obtain ⟨e1, e2⟩ := Prod.mk.inj h
           subst e2
           have hlen := folM_len hm
           have hpos : 0 < (descL l1 :: M).length := by simp
           have hlen2 : (descL l1 :: M).length ≤ 1048577 := by rw [List.length_cons]; omega
           generalize descL l1 :: M = t1521 at hfo e1 hpos hlen2
           have hsm := (good_sm hg.1).1
           have hdl : (descL l0).length ≤ 1000 := by rw [descL_length]; exact hsm
           generalize descL l0 = t1526 at hrk e1 hdl
           have hj0 : wrap64 ((t1521.length : Int) - 1) = ((t1521.length - 1 : Nat) : Int) := by rw [w64 (by omega) (by omega)]; omega
           have hlr : lastR t1521 = rd_L2 t1521 (wrap64 ((t1521.length : Int) - 1)) := by
            rw [hj0]
            unfold lastR rd_L2
            rw [Int.toNat_natCast]
           rw [hlr] at e1
           obtain ⟨ji16, hji16⟩ : ∃ j_ : Int, (wrap64 ((t1521.length : Int) - 1)) = j_ := ⟨_, rfl⟩
           rw [hji16] at e1 hj0
           have hji16w : (IntKind.i64.wrap ((t1521.length : Int) - 1)) = ji16 := (i64_w _).trans hji16
           have c17b0 : decide (0 ≤ (ji16)) = true := zaz (by omega)
           have c18b0 : decide ((ji16) < (t1521.length : Int)) = true := zaz (by omega)
           obtain ⟨kj3, hE⟩ := Ev.get (slEqual_ev' (rd_L2 t1521 ji16) t1526 hdl)
           rw [e1] at hE
           obtain ⟨t1529, ht⟩ : ∃ t, t = r1 := ⟨_, rfl⟩
           rw [← ht] at hE ⊢
           have A14 := zad hfo
           have A19 := zad hrk
           have A20 := zad hE
           clear a f n h hg g hlr hpos hlen2 hdl hsm hE ht e1 hfo hrk hj0 hlen hm
           go_enter Try.func63, Try.ntmps63
           go_wp2_with (first | (go_at_call 107; (with_reducible refine (impl_areLists.calls k1 _ _ l0 _ _ l1 true _ ?side1 ?side2 ?side3 ?side4 AA.out).mono ?_); (case side1 => repeat (first | exact HR0.out | (with_reducible refine zal ?_ _) | (with_reducible refine zam ?_ _) | (with_reducible refine zan ?_))); (case side2 => exact HC0.out); (case side3 => repeat (first | exact HR1.out | (with_reducible refine zal ?_ _) | (with_reducible refine zam ?_ _) | (with_reducible refine zan ?_))); (case side4 => exact HC1.out); rintro e w' ⟨rfl, ⟨nd, rfl⟩⟩) | (go_at_call 112; (with_reducible refine (impl_doFit.calls k2 _ _ l0 _ _ l1 true _ ?side1 ?side2 ?side3 ?side4 AF.out).mono ?_); (case side1 => repeat (first | exact HR0.out | (with_reducible refine zal ?_ _) | (with_reducible refine zam ?_ _) | (with_reducible refine zan ?_))); (case side2 => exact HC0.out); (case side3 => repeat (first | exact HR1.out | (with_reducible refine zal ?_ _) | (with_reducible refine zam ?_ _) | (with_reducible refine zan ?_))); (case side4 => exact HC1.out); rintro e w' ⟨rfl, ⟨nd, rfl⟩⟩) | (go_at_call 132; refine (HCON.out _).mono ?_; rintro e w1 ⟨rfl, hb⟩; have HB := zad (below_step (zae (zag HB0.out _) _) hb); have hcb := pw_cell_below hb (show (World.drewN (w.alloc (.cells #[.slice A1 l1.length c1] 26)) _).cell? ⟨w.heap.size, 0, none⟩ = some (.slice A1 l1.length c1) from by show (w.alloc (.cells #[.slice A1 l1.length c1] 26)).cell? ⟨w.heap.size, 0, none⟩ = _; simp); clear hb) | (go_at_call 134; (with_reducible refine (impl_follow.calls _ _ l1 _ _ l2 t1521 true _ ?side1 ?side2 ?side3 ?side4 A14.out).mono ?_); (case side1 => exact Kd.C_below HR1.out (by repeat (first | (with_reducible first | exact HB.out | apply zag | apply zae | apply zaf) | exact HB.out))); (case side2 => exact HC1.out); (case side3 => exact Kd.C_below HR2.out (by repeat (first | (with_reducible first | exact HB.out | apply zag | apply zae | apply zaf) | exact HB.out))); (case side4 => exact HC2.out); rintro e w21 ⟨v1523, rfl, ho0, hb⟩; have n0_ := zad (Kd.S_lower ho0 (below_size (by repeat (first | (with_reducible first | exact HB.out | apply zag | apply zae | apply zaf) | exact HB.out)))); have n1_ := zad (below_step (by repeat (first | (with_reducible first | exact HB.out | apply zag | apply zae | apply zaf) | exact HB.out)) hb); clear HB; have HO1524 := n0_; have HB := n1_; clear n0_ n1_ hb ho0 hcb))
           have n0_ := zad (Kd.S_drew HO1524.out)
           have n1_ := zad (zaf HB.out)
           clear HO1524
           clear HB
           have HO1524 := n0_
           have HB := n1_
           clear n0_ n1_
           obtain ⟨Ao23, co23, eo23⟩ := Kd.S_slice HO1524.out
           (first | subst eo23 | (injection eo23 with f1_ f2_ f3_; have f4_ := f1_.symm; have f5_ := f3_.symm; clear f1_ f2_ f3_; subst f4_; subst f5_))
           have p1525 : 0 ≤ ((ji16) : Int) := zas (by first | (with_reducible assumption) | assumption)
           have q1525 : (ji16) < (t1521.length : Int) := zas (by first | (with_reducible assumption) | assumption)
           obtain ⟨ad1525, A1525_0, c1525_0, e1525, hx1525_0, hl1525_0, hi1525_0⟩ := at_L2 (Kd.S_reads' HO1524.out).2.2 (ji16) p1525 q1525
           cases e1525
           obtain ⟨ce1525, hce1525, hMe1525, hcc1525⟩ := Kd.S_get HO1524.out [] (ji16) p1525 (by first | exact q1525 | exact zas (by first | (with_reducible assumption) | assumption) | (have e_ := (Kd.S_reads' HO1524.out).1; omega))
           obtain ⟨ve1525_0, rfl, ge1525_0⟩ := hMe1525
           have hv1525_0 := hcc1525 0 _ rfl
           rw [Nat.add_zero, show ((Kd.slice 3 (Kd.int .i64))).sz = 1 from rfl, Nat.mul_one] at hv1525_0
           replace hv1525_0 := Option.some.inj (hv1525_0.symm.trans hx1525_0)
           rw [hv1525_0] at ge1525_0
           have HL1525_0 := zad (show Kd.R (Kd.int .i64) 3 _ _ _ _ (rd_L2 t1521 (ji16)) from ge1525_0)
           clear hv1525_0 ge1525_0
           clear hcc1525 hce1525
           have HR1525_0 := zad hi1525_0
           have HC1525_0 := zad hl1525_0
           clear hi1525_0 hl1525_0
           replace p1525 := eq_true p1525
           replace q1525 := eq_true q1525
           refine start_ (n := 14) (S := fun w' => w'.cell? (ad1525.add ((ji16)).toNat) = some (.slice A1525_0 (rd_L2 t1521 (ji16)).length c1525_0)) (ds := []) #[false, false, false, false, false, false, false, false, false, false, false, false, false, false] (by kernel_rfl) rfl rfl (hx1525_0) (fun hHeld => ?_); refine with_tabW impl_IsGiftPath.tab6 impl_IsGiftPath.bits6 (fun HT_ HW_ => ?_)
           generalize w21.drew = w22 at HO1524 HB HL1525_0 HR1525_0 hx1525_0 hHeld ⊢
           refine pure_ (i := 0) (N := some 34) (v := ?_) (a' := ?_) #[true, false, false, false, false, false, false, false, false, false, false, false, false, false] rfl rfl (any_of HT_.out (by kernel_rfl)) (fun _ _ _ h => h) (Or.inl ⟨by rfl, ?_⟩) ?_ ?_
           rotate_left
           · intro w'
             go_simp
             with_reducible rfl
           rotate_left
           · simp only [Act.put, zaa, zab, zac, i64_w, i32_w]
             rfl
           refine pure_ (i := 1) (N := some 35) (v := ?_) (a' := ?_) #[true, true, false, false, false, false, false, false, false, false, false, false, false, false] rfl rfl (any_of HT_.out (by kernel_rfl)) (fun _ _ _ h => h) (Or.inl ⟨by rfl, ?_⟩) ?_ ?_
           rotate_left
           · intro w'
             go_simp
             with_reducible rfl
           rotate_left
           · simp only [Act.put, zaa, zab, zac, i64_w, i32_w]
             rfl
           refine pure_ (i := 2) (N := some 36) (v := ?_) (a' := ?_) #[true, true, true, false, false, false, false, false, false, false, false, false, false, false] rfl rfl (any_of HT_.out (by kernel_rfl)) (fun _ _ _ h => h) (Or.inl ⟨by rfl, ?_⟩) ?_ ?_
           rotate_left
           · intro w'
             go_simp
             with_reducible rfl
           rotate_left
           · simp only [Act.put, zaa, zab, zac, i64_w, i32_w]
             rfl
           refine pure_ (i := 3) (N := some 37) (v := ?_) (a' := ?_) #[true, true, true, true, false, false, false, false, false, false, false, false, false, false] rfl rfl (any_of HT_.out (by kernel_rfl)) (fun _ _ _ h => h) (Or.inl ⟨by rfl, ?_⟩) ?_ ?_
           rotate_left
           · intro w'
             go_simp
             with_reducible rfl
           rotate_left
           · simp only [Act.put, zaa, zab, zac, i64_w, i32_w]
             rfl
           refine pure_ (i := 4) (N := some 38) (v := ?_) (a' := ?_) #[true, true, true, true, true, false, false, false, false, false, false, false, false, false] rfl rfl (any_of HT_.out (by kernel_rfl)) (fun _ _ _ h => h) (Or.inl ⟨by rfl, ?_⟩) ?_ ?_
           rotate_left
           · intro w'
             go_simp
             with_reducible rfl
           rotate_left
           · simp only [Act.put, zaa, zab, zac, i64_w, i32_w]
             rfl
           refine pure_ (i := 5) (N := some 39) (v := ?_) (a' := ?_) #[true, true, true, true, true, true, false, false, false, false, false, false, false, false] rfl rfl (any_of HT_.out (by kernel_rfl)) (fun _ _ _ h => h) (Or.inl ⟨by rfl, ?_⟩) ?_ ?_
           rotate_left
           · intro w'
             go_simp
             with_reducible rfl
           rotate_left
           · simp only [Act.put, zaa, zab, zac, i64_w, i32_w]
             rfl
           refine pure_ (i := 6) (N := some 40) (v := ?_) (a' := ?_) #[true, true, true, true, true, true, true, false, false, false, false, false, false, false] rfl rfl (any_of HT_.out (by kernel_rfl)) (fun _ _ _ h => h) (Or.inl ⟨by rfl, ?_⟩) ?_ ?_
           rotate_left
           · intro w'
             go_simp
             with_reducible rfl
           rotate_left
           · simp only [Act.put, zaa, zab, zac, i64_w, i32_w]
             rfl
           refine pure_ (i := 8) (N := some 42) (v := ?_) (a' := ?_) #[true, true, true, true, true, true, true, false, true, false, false, false, false, false] rfl rfl (any_of HT_.out (by kernel_rfl)) (fun _ _ _ h => h) (Or.inl ⟨by rfl, ?_⟩) ?_ ?_
           rotate_left
           · intro w'
             go_simp
             with_reducible rfl
           rotate_left
           · simp only [Act.put, zaa, zab, zac, i64_w, i32_w]
             rfl
           refine take_ (i := 7) (N := some 41) (v := ?_) (a' := ?_) #[true, true, true, true, true, true, true, true, true, false, false, false, false, false] rfl rfl (take_ofW HT_.out HW_.out (by kernel_rfl)) (fun _ _ _ h => h) (Or.inl ⟨by rfl, ?_⟩) hHeld ?_ ?_
           rotate_left
           · intro w' s0
             go_simp
             with_reducible rfl
           rotate_left
           · simp only [Act.put, zaa, zab, zac, i64_w, i32_w]
             rfl
           refine one_ (i := 9) (N := some 43) #[true, true, true, true, true, true, true, true, true, true, false, false, false, false] rfl rfl (one_of HT_.out (by kernel_rfl)) (by decide) (fun K hK => ?_)
           refine goes_ Try.func88 (by kernel_rfl) rfl #[.slice A0 l0.length c0] (by rfl) rfl rfl (by (try simp only [zat, zau, zav]); first | done | rfl | (simp only [zaw, zax]; rfl)) ?_
           with_reducible refine (impl_ranking.calls _ _ l0 t1526 _ ?side1 ?side2 A19.out).mono ?_
           (case side1 => repeat (first | exact (Kd.C_below HR0.out HB.out) | (with_reducible refine zal ?_ _) | (with_reducible refine zam ?_ _) | (with_reducible refine zan ?_)))
           (case side2 => exact HC0.out)
           rintro e w24 ⟨v1527, rfl, ho0, hb⟩
           have HS0_ := (hb.cell (zay _ _ (hHeld))).trans (hHeld)
           refine ⟨_, rfl, ?_⟩
           have n0_ := zad (Kd.S_elder' (by (with_reducible repeat (first | apply Kd.S_alloc | apply Kd.S_drewN | apply Kd.S_drew)); exact HO1524.out) (Kd.R_base ho0) hb)
           have n1_ := zad (Kd.R_elder' (by (with_reducible repeat (first | apply zai | apply zaj | apply zak)); exact HL1525_0.out) (Kd.R_base ho0) hb)
           have n2_ := zad (Kd.R_lower (Kd.R_new' ho0 (Kd.R_lt (by (with_reducible repeat (first | apply zai | apply zaj | apply zak)); exact HL1525_0.out))) (below_size (by repeat (first | (with_reducible first | exact HB.out | apply zag | apply zae | apply zaf) | exact HB.out))))
           have n3_ := zad (Kd.C_below (by repeat (first | (with_reducible exact HR1525_0.out) | (with_reducible refine zal ?_ _) | (with_reducible refine zam ?_ _) | (with_reducible refine zan ?_) | exact HR1525_0.out)) hb)
           have n4_ := zad (below_step (by repeat (first | (with_reducible first | exact HB.out | apply zag | apply zae | apply zaf) | exact HB.out)) hb)
           clear HO1524
           clear HL1525_0
           clear HR1525_0
           clear HB
           have HO1524 := n0_
           have HL1525_0 := n1_
           have HO1528 := n2_
           have HR1525_0 := n3_
           have HB := n4_
           clear n0_ n1_ n2_ n3_ n4_
           (try clear hb)
           (try clear hb2)
           (try clear hk)
           (try clear hi)
           (try clear ho0)
           obtain ⟨Ao25, co25, eo25⟩ := Kd.R_slice HO1528.out
           (first | subst eo25 | (injection eo25 with f1_ f2_ f3_; have f4_ := f1_.symm; have f5_ := f3_.symm; clear f1_ f2_ f3_; subst f4_; subst f5_))
           refine hK.out _ _ (HS0_) (fun hHeld => ?_)
           clear hK K
           refine norm_ (a' := ?_) ?_ ?_
           rotate_left
           · show Act.put _ (some 43) _ = _
             simp only [Act.put, zaa, zab, zac, i64_w, i32_w]
             rfl
           refine one_ (i := 10) (N := some 44) #[true, true, true, true, true, true, true, true, true, true, true, false, false, false] rfl rfl (one_of HT_.out (by kernel_rfl)) (by decide) (fun K hK => ?_)
           refine goes_ Try.func135 (by kernel_rfl) rfl #[.slice A1525_0 (rd_L2 t1521 (ji16)).length c1525_0, .slice Ao25 t1526.length co25] (by rfl) rfl rfl (by (try simp only [zat, zau, zav]); first | done | (simp only [hji16]; rfl) | rfl | (simp only [zaw, zax]; rfl)) ?_
           with_reducible refine (slices_Equal_int_int.calls kj3 _ _ (rd_L2 t1521 (ji16)) _ _ t1526 t1529 _ ?side1 ?side2 ?side3 ?side4 A20.out).mono ?_
           (case side1 => repeat (first | exact (by repeat (first | (with_reducible exact HR1525_0.out) | (with_reducible refine zal ?_ _) | (with_reducible refine zam ?_ _) | (with_reducible refine zan ?_) | exact HR1525_0.out)) | (with_reducible refine zal ?_ _) | (with_reducible refine zam ?_ _) | (with_reducible refine zan ?_)))
           (case side2 => exact HC1525_0.out)
           (case side3 => repeat (first | exact (Kd.R_reads' HO1528.out).2.2 | (with_reducible refine zal ?_ _) | (with_reducible refine zam ?_ _) | (with_reducible refine zan ?_)))
           (case side4 => exact (Kd.R_reads' HO1528.out).2.1)
           rintro e w' ⟨rfl, ⟨nd, rfl⟩⟩
           refine ⟨_, rfl, ?_⟩
           refine hK.out _ _ (hHeld) (fun hHeld => ?_)
           clear hK K
           refine norm_ (a' := ?_) ?_ ?_
           rotate_left
           · show Act.put _ (some 44) _ = _
             simp only [Act.put, zaa, zab, zac, i64_w, i32_w]
             rfl
           refine pure_ (i := 11) (N := some 45) (v := ?_) (a' := ?_) #[true, true, true, true, true, true, true, true, true, true, true, true, false, false] rfl rfl (any_of HT_.out (by kernel_rfl)) (fun _ _ _ h => h) (Or.inl ⟨by rfl, ?_⟩) ?_ ?_
           rotate_left
           · intro w'
             go_simp
             with_reducible rfl
           rotate_left
           · simp only [Act.put, zaa, zab, zac, i64_w, i32_w]
             rfl
           refine pure_ (i := 12) (N := some 6) (v := ?_) (a' := ?_) #[true, true, true, true, true, true, true, true, true, true, true, true, true, false] rfl rfl (any_of HT_.out (by kernel_rfl)) (fun _ _ _ h => h) (Or.inl ⟨by rfl, ?_⟩) ?_ ?_
           rotate_left
           · intro w'
             go_simp
             with_reducible rfl
           rotate_left
           · simp only [Act.put, zaa, zab, zac, i64_w, i32_w]
             rfl
           refine pure_ (i := 13) (N := some 7) (v := ?_) (a' := ?_) #[true, true, true, true, true, true, true, true, true, true, true, true, true, true] rfl rfl (any_of HT_.out (by kernel_rfl)) (fun _ _ _ h => h) (Or.inl ⟨by rfl, ?_⟩) ?_ ?_
           rotate_left
           · intro w'
             go_simp
             with_reducible rfl
           rotate_left
           · simp only [Act.put, zaa, zab, zac, i64_w, i32_w]
             rfl
           refine done_ (done_of HT_.out (by kernel_rfl)) ?_
           try go_wp2
           go_ret2
           exact ⟨by first | rfl | (simp only [← hji16]; first | rfl | simp) | (simp [*] <;> rfl), by repeat (first | (with_reducible first | exact HB.out | apply zag | apply zae | apply zaf) | exact HB.out)⟩
          | none =>
           rw [hm] at h hfo
           simp only [folA] at h hfo
           obtain ⟨e1, e2⟩ := Prod.mk.inj h
           subst e1
           subst e2
           have A14 := zad hfo
           clear a f n h hg g hfo hrk hm
           go_enter Try.func63, Try.ntmps63
           go_wp2_with (first | (go_at_call 107; (with_reducible refine (impl_areLists.calls k1 _ _ l0 _ _ l1 true _ ?side1 ?side2 ?side3 ?side4 AA.out).mono ?_); (case side1 => repeat (first | exact HR0.out | (with_reducible refine zal ?_ _) | (with_reducible refine zam ?_ _) | (with_reducible refine zan ?_))); (case side2 => exact HC0.out); (case side3 => repeat (first | exact HR1.out | (with_reducible refine zal ?_ _) | (with_reducible refine zam ?_ _) | (with_reducible refine zan ?_))); (case side4 => exact HC1.out); rintro e w' ⟨rfl, ⟨nd, rfl⟩⟩) | (go_at_call 112; (with_reducible refine (impl_doFit.calls k2 _ _ l0 _ _ l1 true _ ?side1 ?side2 ?side3 ?side4 AF.out).mono ?_); (case side1 => repeat (first | exact HR0.out | (with_reducible refine zal ?_ _) | (with_reducible refine zam ?_ _) | (with_reducible refine zan ?_))); (case side2 => exact HC0.out); (case side3 => repeat (first | exact HR1.out | (with_reducible refine zal ?_ _) | (with_reducible refine zam ?_ _) | (with_reducible refine zan ?_))); (case side4 => exact HC1.out); rintro e w' ⟨rfl, ⟨nd, rfl⟩⟩) | (go_at_call 132; refine (HCON.out _).mono ?_; rintro e w1 ⟨rfl, hb⟩; have HB := zad (below_step (zae (zag HB0.out _) _) hb); have hcb := pw_cell_below hb (show (World.drewN (w.alloc (.cells #[.slice A1 l1.length c1] 26)) _).cell? ⟨w.heap.size, 0, none⟩ = some (.slice A1 l1.length c1) from by show (w.alloc (.cells #[.slice A1 l1.length c1] 26)).cell? ⟨w.heap.size, 0, none⟩ = _; simp); clear hb) | (go_at_call 134; (with_reducible refine (impl_follow.calls _ _ l1 _ _ l2 [] false _ ?side1 ?side2 ?side3 ?side4 A14.out).mono ?_); (case side1 => exact Kd.C_below HR1.out (by repeat (first | (with_reducible first | exact HB.out | apply zag | apply zae | apply zaf) | exact HB.out))); (case side2 => exact HC1.out); (case side3 => exact Kd.C_below HR2.out (by repeat (first | (with_reducible first | exact HB.out | apply zag | apply zae | apply zaf) | exact HB.out))); (case side4 => exact HC2.out); rintro e w26 ⟨v1523, rfl, ho0, hb⟩; have n0_ := zad (Kd.S_lower ho0 (below_size (by repeat (first | (with_reducible first | exact HB.out | apply zag | apply zae | apply zaf) | exact HB.out)))); have n1_ := zad (below_step (by repeat (first | (with_reducible first | exact HB.out | apply zag | apply zae | apply zaf) | exact HB.out)) hb); clear HB; have HO1524 := n0_; have HB := n1_; clear n0_ n1_ hb ho0 hcb))
           have n0_ := zad (Kd.S_drew HO1524.out)
           have n1_ := zad (zaf HB.out)
           clear HO1524
           clear HB
           have HO1524 := n0_
           have HB := n1_
           clear n0_ n1_
           refine start_ (n := 14) (S := fun w' => True) (ds := []) #[false, false, false, false, false, false, false, false, false, false, false, false, false, false] (by kernel_rfl) rfl rfl trivial (fun hHeld => ?_); refine with_tabW impl_IsGiftPath.tab6 impl_IsGiftPath.bits6 (fun HT_ HW_ => ?_)
           generalize w26.drew = w27 at HO1524 HB hHeld ⊢
           refine pure_ (i := 0) (N := some 34) (v := ?_) (a' := ?_) #[true, false, false, false, false, false, false, false, false, false, false, false, false, false] rfl rfl (any_of HT_.out (by kernel_rfl)) (fun _ _ _ h => h) (Or.inl ⟨by rfl, ?_⟩) ?_ ?_
           rotate_left
           · intro w'
             go_simp
             with_reducible rfl
           rotate_left
           · simp only [Act.put, zaa, zab, zac, i64_w, i32_w]
             rfl
           refine pure_ (i := 1) (N := some 35) (v := ?_) (a' := ?_) #[true, true, false, false, false, false, false, false, false, false, false, false, false, false] rfl rfl (any_of HT_.out (by kernel_rfl)) (fun _ _ _ h => h) (Or.inl ⟨by rfl, ?_⟩) ?_ ?_
           rotate_left
           · intro w'
             go_simp
             with_reducible rfl
           rotate_left
           · simp only [Act.put, zaa, zab, zac, i64_w, i32_w]
             rfl
           refine pure_ (i := 2) (N := some 36) (v := undef) (a' := ?_) #[true, true, true, false, false, false, false, false, false, false, false, false, false, false] rfl rfl (any_of HT_.out (by kernel_rfl)) (fun _ _ _ h => h) (Or.inr ⟨by rfl, rfl⟩) ?_ ?_
           rotate_left
           · simp only [Act.put, zaa, zab, zac, i64_w, i32_w]
             rfl
           refine pure_ (i := 3) (N := some 37) (v := undef) (a' := ?_) #[true, true, true, true, false, false, false, false, false, false, false, false, false, false] rfl rfl (any_of HT_.out (by kernel_rfl)) (fun _ _ _ h => h) (Or.inr ⟨by rfl, rfl⟩) ?_ ?_
           rotate_left
           · simp only [Act.put, zaa, zab, zac, i64_w, i32_w]
             rfl
           refine pure_ (i := 4) (N := some 38) (v := undef) (a' := ?_) #[true, true, true, true, true, false, false, false, false, false, false, false, false, false] rfl rfl (any_of HT_.out (by kernel_rfl)) (fun _ _ _ h => h) (Or.inr ⟨by rfl, rfl⟩) ?_ ?_
           rotate_left
           · simp only [Act.put, zaa, zab, zac, i64_w, i32_w]
             rfl
           refine pure_ (i := 5) (N := some 39) (v := undef) (a' := ?_) #[true, true, true, true, true, true, false, false, false, false, false, false, false, false] rfl rfl (any_of HT_.out (by kernel_rfl)) (fun _ _ _ h => h) (Or.inr ⟨by rfl, rfl⟩) ?_ ?_
           rotate_left
           · simp only [Act.put, zaa, zab, zac, i64_w, i32_w]
             rfl
           refine pure_ (i := 6) (N := some 40) (v := undef) (a' := ?_) #[true, true, true, true, true, true, true, false, false, false, false, false, false, false] rfl rfl (any_of HT_.out (by kernel_rfl)) (fun _ _ _ h => h) (Or.inr ⟨by rfl, rfl⟩) ?_ ?_
           rotate_left
           · simp only [Act.put, zaa, zab, zac, i64_w, i32_w]
             rfl
           refine pure_ (i := 7) (N := some 41) (v := undef) (a' := ?_) #[true, true, true, true, true, true, true, true, false, false, false, false, false, false] rfl rfl (any_of HT_.out (by kernel_rfl)) (fun _ _ _ h => h) (Or.inr ⟨by rfl, rfl⟩) ?_ ?_
           rotate_left
           · simp only [Act.put, zaa, zab, zac, i64_w, i32_w]
             rfl
           refine pure_ (i := 8) (N := some 42) (v := undef) (a' := ?_) #[true, true, true, true, true, true, true, true, true, false, false, false, false, false] rfl rfl (any_of HT_.out (by kernel_rfl)) (fun _ _ _ h => h) (Or.inr ⟨by rfl, rfl⟩) ?_ ?_
           rotate_left
           · simp only [Act.put, zaa, zab, zac, i64_w, i32_w]
             rfl
           refine pure_ (i := 9) (N := some 43) (v := undef) (a' := ?_) #[true, true, true, true, true, true, true, true, true, true, false, false, false, false] rfl rfl (any_of HT_.out (by kernel_rfl)) (fun _ _ _ h => h) (Or.inr ⟨by rfl, rfl⟩) ?_ ?_
           rotate_left
           · simp only [Act.put, zaa, zab, zac, i64_w, i32_w]
             rfl
           refine pure_ (i := 10) (N := some 44) (v := undef) (a' := ?_) #[true, true, true, true, true, true, true, true, true, true, true, false, false, false] rfl rfl (any_of HT_.out (by kernel_rfl)) (fun _ _ _ h => h) (Or.inr ⟨by rfl, rfl⟩) ?_ ?_
           rotate_left
           · simp only [Act.put, zaa, zab, zac, i64_w, i32_w]
             rfl
           refine pure_ (i := 11) (N := some 45) (v := ?_) (a' := ?_) #[true, true, true, true, true, true, true, true, true, true, true, true, false, false] rfl rfl (any_of HT_.out (by kernel_rfl)) (fun _ _ _ h => h) (Or.inl ⟨by rfl, ?_⟩) ?_ ?_
           rotate_left
           · intro w'
             go_simp
             with_reducible rfl
           rotate_left
           · simp only [Act.put, zaa, zab, zac, i64_w, i32_w]
             rfl
           refine pure_ (i := 12) (N := some 6) (v := ?_) (a' := ?_) #[true, true, true, true, true, true, true, true, true, true, true, true, true, false] rfl rfl (any_of HT_.out (by kernel_rfl)) (fun _ _ _ h => h) (Or.inl ⟨by rfl, ?_⟩) ?_ ?_
           rotate_left
           · intro w'
             go_simp
             with_reducible rfl
           rotate_left
           · simp only [Act.put, zaa, zab, zac, i64_w, i32_w]
             rfl
           refine pure_ (i := 13) (N := some 7) (v := ?_) (a' := ?_) #[true, true, true, true, true, true, true, true, true, true, true, true, true, true] rfl rfl (any_of HT_.out (by kernel_rfl)) (fun _ _ _ h => h) (Or.inl ⟨by rfl, ?_⟩) ?_ ?_
           rotate_left
           · intro w'
             go_simp
             with_reducible rfl
           rotate_left
           · simp only [Act.put, zaa, zab, zac, i64_w, i32_w]
             rfl
           refine done_ (done_of HT_.out (by kernel_rfl)) ?_
           try go_wp2
           go_ret2
           exact ⟨by first | rfl | (simp [*] <;> rfl), by repeat (first | (with_reducible first | exact HB.out | apply zag | apply zae | apply zaf) | exact HB.out)⟩
    · rw [if_neg f] at h
      obtain ⟨e1, e2⟩ := Prod.mk.inj h
      subst e1
      subst e2
      rw [Bool.eq_false_iff.2 f] at AF
      clear a f h hg
      go_enter Try.func63, Try.ntmps63
      go_wp2_with (first | (go_at_call 107; (with_reducible refine (impl_areLists.calls k1 _ _ l0 _ _ l1 true _ ?side1 ?side2 ?side3 ?side4 AA.out).mono ?_); (case side1 => repeat (first | exact HR0.out | (with_reducible refine zal ?_ _) | (with_reducible refine zam ?_ _) | (with_reducible refine zan ?_))); (case side2 => exact HC0.out); (case side3 => repeat (first | exact HR1.out | (with_reducible refine zal ?_ _) | (with_reducible refine zam ?_ _) | (with_reducible refine zan ?_))); (case side4 => exact HC1.out); rintro e w' ⟨rfl, ⟨nd, rfl⟩⟩) | (go_at_call 112; (with_reducible refine (impl_doFit.calls k2 _ _ l0 _ _ l1 false _ ?side1 ?side2 ?side3 ?side4 AF.out).mono ?_); (case side1 => repeat (first | exact HR0.out | (with_reducible refine zal ?_ _) | (with_reducible refine zam ?_ _) | (with_reducible refine zan ?_))); (case side2 => exact HC0.out); (case side3 => repeat (first | exact HR1.out | (with_reducible refine zal ?_ _) | (with_reducible refine zam ?_ _) | (with_reducible refine zan ?_))); (case side4 => exact HC1.out); rintro e w' ⟨rfl, ⟨nd, rfl⟩⟩))
      go_ret2
      exact ⟨rfl, by repeat (first | (with_reducible first | exact HB0.out | apply zag | apply zae | apply zaf) | exact HB0.out)⟩
  · rw [if_neg a] at h
    obtain ⟨e1, e2⟩ := Prod.mk.inj h
    subst e1
    subst e2
    rw [Bool.eq_false_iff.2 a] at AA
    clear a h
    go_enter Try.func63, Try.ntmps63
    go_wp2_with (first | (go_at_call 107; (with_reducible refine (impl_areLists.calls k1 _ _ l0 _ _ l1 false _ ?side1 ?side2 ?side3 ?side4 AA.out).mono ?_); (case side1 => repeat (first | exact HR0.out | (with_reducible refine zal ?_ _) | (with_reducible refine zam ?_ _) | (with_reducible refine zan ?_))); (case side2 => exact HC0.out); (case side3 => repeat (first | exact HR1.out | (with_reducible refine zal ?_ _) | (with_reducible refine zam ?_ _) | (with_reducible refine zan ?_))); (case side4 => exact HC1.out); rintro e w' ⟨rfl, ⟨nd, rfl⟩⟩))
    go_ret2
    exact ⟨rfl, by repeat (first | (with_reducible first | exact HB0.out | apply zag | apply zae | apply zaf) | exact HB0.out)⟩
 next => cases h
mutual
def laws_FnBigGiftsAreFew.j0 : Nat → List Int → List Int → List (S39) → Bool → Bool → Option (Bool)
 | 0, _, _, _, _, _ => none
 | k + 1, x5, x6, x7, x10, x46 => if x46 = true then (some false) else (if x10 = true then ((impl_FewestUnits.f k x5 x6).bind fun bt1259 => ((impl_IsGiftPath.f x5 x6 x7).bind fun bt1261 => (laws_FnBigGiftsAreFew.l0 k x5 x7 bt1259.1 bt1259.2 bt1261.1 bt1261.2 0 x7 (x7.length : Int) 0))) else (some true))
def laws_FnBigGiftsAreFew.l0 : Nat → List Int → List (S39) → Int → Bool → Bool → Bool → Int → List (S39) → Int → Int → Option (Bool)
 | 0, _, _, _, _, _, _, _, _, _, _ => none
 | k + 1, x5, x7, x11, x12, x13, x14, x15, x62, x63, x64 => if x64 < x63 then (if 0 ≤ x64 then (if x64 < (x62.length : Int) then (laws_FnBigGiftsAreFew.l0 k x5 x7 x11 x12 x13 x14 (wrap64 (x15 + ((rd_T39 x62 x64).f2))) x62 x63 (wrap64 (x64 + 1))) else (none)) else (none)) else (if x12 = true then (if x14 = true then (if x13 = true then (if x15 = x11 then (some (decide ((x7.length : Int) < (x5.length : Int)))) else (some false)) else (some false)) else (some false)) else (some false))
end
def laws_FnBigGiftsAreFew.f (k : Nat) (l0 : List Int) (l1 : List Int) : Option (Bool) := (laws_big.f l0 l1).bind fun t1243 => (if t1243 = true then (some true) else ((spec_DrawBigGifts.f k l0).bind fun bt1244 => ((impl_BigGifts.f k bt1244.1 bt1244.2).bind fun bt1250 => ((spec_BigGifts.f k bt1244.1 bt1244.2).bind fun bt1254 => (if (bt1250.2 != bt1254.2) = true then (laws_FnBigGiftsAreFew.j0 k bt1244.1 bt1244.2 bt1250.1 bt1254.2 true) else ((laws_pGifts.f k bt1250.1 bt1254.1).bind fun t1258 => (laws_FnBigGiftsAreFew.j0 k bt1244.1 bt1244.2 bt1250.1 bt1254.2 (!t1258))))))))
set_option maxHeartbeats 8000000 in
set_option maxRecDepth 100000 in
theorem laws_FnBigGiftsAreFew.calls (k : Nat) (A0 : Option Addr) (c0 : Nat) (l0 : List Int) (A1 : Option Addr) (c1 : Nat) (l1 : List Int) (r : Bool) (w : World) (hr0 : Kd.C (Kd.int .u8) w A0 l0.length l0) (hc0 : l0.length ≤ c0) (hr1 : Kd.C (Kd.int .u8) w A1 l1.length l1) (hc1 : l1.length ≤ c1) (h : laws_FnBigGiftsAreFew.f k l0 l1 = some r) :
 Calls Try.prog 9 #[.slice A0 l0.length c0, .slice A1 l1.length c1] w fun e w' => e = .returned (.bool r) ∧ Below w.heap.size w w' := by
 have hu39 := Try.underlying39
 have HR0 := zad hr0
 have HC0 := zad hc0
 clear hr0 hc0
 have HR1 := zad hr1
 have HC1 := zad hc1
 clear hr1 hc1
 have HB := zad (Below.refl w.heap.size w)
 have H : ((laws_big.f l0 l1).bind fun t1243 => (if t1243 = true then (some true) else ((spec_DrawBigGifts.f k l0).bind fun bt1244 => ((impl_BigGifts.f k bt1244.1 bt1244.2).bind fun bt1250 => ((spec_BigGifts.f k bt1244.1 bt1244.2).bind fun bt1254 => (if (bt1250.2 != bt1254.2) = true then (laws_FnBigGiftsAreFew.j0 k bt1244.1 bt1244.2 bt1250.1 bt1254.2 true) else ((laws_pGifts.f k bt1250.1 bt1254.1).bind fun t1258 => (laws_FnBigGiftsAreFew.j0 k bt1244.1 bt1244.2 bt1250.1 bt1254.2 (!t1258))))))))) = some r := h
 clear h
 replace H := Option.bind_eq_some_iff.mp H
 obtain ⟨t1243, A30, H⟩ := H
 replace H : (if t1243 = true then (some true) else ((spec_DrawBigGifts.f k l0).bind fun bt1244 => ((impl_BigGifts.f k bt1244.1 bt1244.2).bind fun bt1250 => ((spec_BigGifts.f k bt1244.1 bt1244.2).bind fun bt1254 => (if (bt1250.2 != bt1254.2) = true then (laws_FnBigGiftsAreFew.j0 k bt1244.1 bt1244.2 bt1250.1 bt1254.2 true) else ((laws_pGifts.f k bt1250.1 bt1254.1).bind fun t1258 => (laws_FnBigGiftsAreFew.j0 k bt1244.1 bt1244.2 bt1250.1 bt1254.2 (!t1258)))))))) = some r := H
 have A3 := zad A30
 clear A30
 by_cases c4 : t1243 = true
 · subst c4
   have H1 : (some true) = some r := by rw [if_pos rfl] at H; exact H
   clear H
   have H := H1
   clear H1
   obtain rfl := Option.some.inj H
   go_enter Try.func9, Try.ntmps9
   go_wp2_with (first | ((with_reducible refine gate_callee (f := 13) rfl ?_); refine goesL_ (some 20) rfl rfl Try.func13 (by kernel_rfl) rfl #[.slice A0 l0.length c0, .slice A1 l1.length c1] rfl (by (try simp only [zat, zau, zav]); first | done | rfl | (simp only [zaw, zax]; rfl)) ?_; (with_reducible refine (laws_big.calls _ _ l0 _ _ l1 true _ ?side1 ?side2 ?side3 ?side4 A3.out).mono ?_); (case side1 => repeat (first | exact HR0.out | (with_reducible refine zal ?_ _) | (with_reducible refine zam ?_ _) | (with_reducible refine zan ?_))); (case side2 => exact HC0.out); (case side3 => repeat (first | exact HR1.out | (with_reducible refine zal ?_ _) | (with_reducible refine zam ?_ _) | (with_reducible refine zan ?_))); (case side4 => exact HC1.out); rintro e w' ⟨rfl, ⟨nd, rfl⟩⟩; refine ⟨_, rfl, ?_⟩))
   go_ret
   exact ⟨by first | rfl | (simp [errW_none, errW_some] <;> rfl) | (simp [*, errW_none, errW_some] <;> rfl), by repeat (first | (with_reducible first | exact HB.out | apply zag | apply zae | apply zaf) | exact HB.out)⟩
 · replace c4 := Bool.eq_false_iff.mpr c4
   subst c4
   have H1 : ((spec_DrawBigGifts.f k l0).bind fun bt1244 => ((impl_BigGifts.f k bt1244.1 bt1244.2).bind fun bt1250 => ((spec_BigGifts.f k bt1244.1 bt1244.2).bind fun bt1254 => (if (bt1250.2 != bt1254.2) = true then (laws_FnBigGiftsAreFew.j0 k bt1244.1 bt1244.2 bt1250.1 bt1254.2 true) else ((laws_pGifts.f k bt1250.1 bt1254.1).bind fun t1258 => (laws_FnBigGiftsAreFew.j0 k bt1244.1 bt1244.2 bt1250.1 bt1254.2 (!t1258))))))) = some r := by rw [if_neg (show ¬ (false = true) by decide)] at H; exact H
   clear H
   have H := H1
   clear H1
   replace H := Option.bind_eq_some_iff.mp H
   obtain ⟨⟨t1244, t1245⟩, A50, H⟩ := H
   replace H : ((impl_BigGifts.f k t1244 t1245).bind fun bt1250 => ((spec_BigGifts.f k t1244 t1245).bind fun bt1254 => (if (bt1250.2 != bt1254.2) = true then (laws_FnBigGiftsAreFew.j0 k t1244 t1245 bt1250.1 bt1254.2 true) else ((laws_pGifts.f k bt1250.1 bt1254.1).bind fun t1258 => (laws_FnBigGiftsAreFew.j0 k t1244 t1245 bt1250.1 bt1254.2 (!t1258)))))) = some r := H
   have A5 := zad A50
   clear A50
   replace H := Option.bind_eq_some_iff.mp H
   obtain ⟨⟨t1250, t1251⟩, A60, H⟩ := H
   replace H : ((spec_BigGifts.f k t1244 t1245).bind fun bt1254 => (if (t1251 != bt1254.2) = true then (laws_FnBigGiftsAreFew.j0 k t1244 t1245 t1250 bt1254.2 true) else ((laws_pGifts.f k t1250 bt1254.1).bind fun t1258 => (laws_FnBigGiftsAreFew.j0 k t1244 t1245 t1250 bt1254.2 (!t1258))))) = some r := H
   have A6 := zad A60
   clear A60
   replace H := Option.bind_eq_some_iff.mp H
   obtain ⟨⟨t1254, t1255⟩, A70, H⟩ := H
   replace H : (if (t1251 != t1255) = true then (laws_FnBigGiftsAreFew.j0 k t1244 t1245 t1250 t1255 true) else ((laws_pGifts.f k t1250 t1254).bind fun t1258 => (laws_FnBigGiftsAreFew.j0 k t1244 t1245 t1250 t1255 (!t1258)))) = some r := H
   have A7 := zad A70
   clear A70
   have HC8 := zad H
   clear H
   go_enter Try.func9, Try.ntmps9
   go_upto_region 6 with (first | ((with_reducible refine gate_callee (f := 13) rfl ?_); refine goesL_ (some 20) rfl rfl Try.func13 (by kernel_rfl) rfl #[.slice A0 l0.length c0, .slice A1 l1.length c1] rfl (by (try simp only [zat, zau, zav]); first | done | rfl | (simp only [zaw, zax]; rfl)) ?_; (with_reducible refine (laws_big.calls _ _ l0 _ _ l1 false _ ?side1 ?side2 ?side3 ?side4 A3.out).mono ?_); (case side1 => repeat (first | exact HR0.out | (with_reducible refine zal ?_ _) | (with_reducible refine zam ?_ _) | (with_reducible refine zan ?_))); (case side2 => exact HC0.out); (case side3 => repeat (first | exact HR1.out | (with_reducible refine zal ?_ _) | (with_reducible refine zam ?_ _) | (with_reducible refine zan ?_))); (case side4 => exact HC1.out); rintro e w' ⟨rfl, ⟨nd, rfl⟩⟩; refine ⟨_, rfl, ?_⟩) | ((with_reducible refine gate_callee (f := 58) rfl ?_); refine goesL_ (some 23) rfl rfl Try.func58 (by kernel_rfl) rfl #[.slice A0 l0.length c0] rfl (by (try simp only [zat, zau, zav]); first | done | rfl | (simp only [zaw, zax]; rfl)) ?_; (with_reducible refine (spec_DrawBigGifts.calls k _ _ l0 t1244 t1245 _ ?side1 ?side2 A5.out).mono ?_); (case side1 => repeat (first | exact HR0.out | (with_reducible refine zal ?_ _) | (with_reducible refine zam ?_ _) | (with_reducible refine zan ?_))); (case side2 => exact HC0.out); rintro e w9 ⟨v1246, v1248, rfl, ho0, ho1, hb⟩; refine ⟨_, rfl, ?_⟩; have n0_ := zad (Kd.R_lower ho0 (below_size (by repeat (first | (with_reducible first | exact HB.out | apply zag | apply zae | apply zaf) | exact HB.out)))); have n1_ := zad (Kd.R_lower ho1 (below_size (by repeat (first | (with_reducible first | exact HB.out | apply zag | apply zae | apply zaf) | exact HB.out)))); have n2_ := zad (below_step (by repeat (first | (with_reducible first | exact HB.out | apply zag | apply zae | apply zaf) | exact HB.out)) hb); clear HB; have HO1247 := n0_; have HO1249 := n1_; have HB := n2_; clear n0_ n1_ n2_; (try clear hb); (try clear hb2); (try clear hk); (try clear hi); (try clear ho0); (try clear ho1); obtain ⟨Ao10, co10, eo10⟩ := Kd.R_slice HO1247.out; subst eo10; obtain ⟨Ao11, co11, eo11⟩ := Kd.R_slice HO1249.out; subst eo11) | ((with_reducible refine gate_callee (f := 59) rfl ?_); refine goesL_ (some 29) rfl rfl Try.func59 (by kernel_rfl) rfl #[.slice Ao10 t1244.length co10, .slice Ao11 t1245.length co11] rfl (by (try simp only [zat, zau, zav]); first | done | rfl | (simp only [zaw, zax]; rfl)) ?_; (with_reducible refine (impl_BigGifts.calls k _ _ t1244 _ _ t1245 t1250 t1251 _ ?side1 ?side2 ?side3 ?side4 A6.out).mono ?_); (case side1 => repeat (first | exact (Kd.R_reads' HO1247.out).2.2 | (with_reducible refine zal ?_ _) | (with_reducible refine zam ?_ _) | (with_reducible refine zan ?_))); (case side2 => exact (Kd.R_reads' HO1247.out).2.1); (case side3 => repeat (first | exact (Kd.R_reads' HO1249.out).2.2 | (with_reducible refine zal ?_ _) | (with_reducible refine zam ?_ _) | (with_reducible refine zan ?_))); (case side4 => exact (Kd.R_reads' HO1249.out).2.1); rintro e w12 ⟨v1252, rfl, ho0, hb⟩; refine ⟨_, rfl, ?_⟩; have n0_ := zad (Kd.R_below (by (with_reducible repeat (first | apply zai | apply zaj | apply zak)); exact HO1247.out) hb); have n1_ := zad (Kd.R_below (by (with_reducible repeat (first | apply zai | apply zaj | apply zak)); exact HO1249.out) hb); have n2_ := zad (Kd.R_lower ho0 (below_size (by repeat (first | (with_reducible first | exact HB.out | apply zag | apply zae | apply zaf) | exact HB.out)))); have n3_ := zad (below_step (by repeat (first | (with_reducible first | exact HB.out | apply zag | apply zae | apply zaf) | exact HB.out)) hb); clear HO1247; clear HO1249; clear HB; have HO1247 := n0_; have HO1249 := n1_; have HO1253 := n2_; have HB := n3_; clear n0_ n1_ n2_ n3_; (try clear hb); (try clear hb2); (try clear hk); (try clear hi); (try clear ho0)) | ((with_reducible refine gate_callee (f := 60) rfl ?_); refine goesL_ (some 35) rfl rfl Try.func60 (by kernel_rfl) rfl #[.slice Ao10 t1244.length co10, .slice Ao11 t1245.length co11] rfl (by (try simp only [zat, zau, zav]); first | done | rfl | (simp only [zaw, zax]; rfl)) ?_; (with_reducible refine (spec_BigGifts.calls k _ _ t1244 _ _ t1245 t1254 t1255 _ ?side1 ?side2 ?side3 ?side4 A7.out).mono ?_); (case side1 => repeat (first | exact (Kd.R_reads' HO1247.out).2.2 | (with_reducible refine zal ?_ _) | (with_reducible refine zam ?_ _) | (with_reducible refine zan ?_))); (case side2 => exact (Kd.R_reads' HO1247.out).2.1); (case side3 => repeat (first | exact (Kd.R_reads' HO1249.out).2.2 | (with_reducible refine zal ?_ _) | (with_reducible refine zam ?_ _) | (with_reducible refine zan ?_))); (case side4 => exact (Kd.R_reads' HO1249.out).2.1); rintro e w13 ⟨v1256, rfl, ho0, hb⟩; refine ⟨_, rfl, ?_⟩; have n0_ := zad (Kd.R_below (by (with_reducible repeat (first | apply zai | apply zaj | apply zak)); exact HO1247.out) hb); have n1_ := zad (Kd.R_below (by (with_reducible repeat (first | apply zai | apply zaj | apply zak)); exact HO1249.out) hb); have n2_ := zad (Kd.R_elder' (by (with_reducible repeat (first | apply zai | apply zaj | apply zak)); exact HO1253.out) (Kd.R_base ho0) hb); have n3_ := zad (Kd.R_lower (Kd.R_new' ho0 (Kd.R_lt (by (with_reducible repeat (first | apply zai | apply zaj | apply zak)); exact HO1253.out))) (below_size (by repeat (first | (with_reducible first | exact HB.out | apply zag | apply zae | apply zaf) | exact HB.out)))); have n4_ := zad (below_step (by repeat (first | (with_reducible first | exact HB.out | apply zag | apply zae | apply zaf) | exact HB.out)) hb); clear HO1247; clear HO1249; clear HO1253; clear HB; have HO1247 := n0_; have HO1249 := n1_; have HO1253 := n2_; have HO1257 := n3_; have HB := n4_; clear n0_ n1_ n2_ n3_ n4_; (try clear hb); (try clear hb2); (try clear hk); (try clear hi); (try clear ho0)))
   (try simp only [Act.put, zaa, zab, zac])
   go_cut [46] (fun v46 wc => ∃ (kq : Nat) (x46_7 : Bool), v46 = .bool x46_7 ∧ Aside0 (laws_FnBigGiftsAreFew.j0 kq t1244 t1245 t1250 t1255 x46_7 = some r) ∧ Aside0 (kq ≤ k) ∧ Aside0 (Kd.R (Kd.int .i64) 3 wc w.heap.size (fun k_ => some k_ ≠ ((.slice Ao11 t1245.length co11) : Value).ownBlock) (.slice Ao10 t1244.length co10) t1244) ∧ Aside0 (Kd.R (Kd.int .i64) 3 wc w.heap.size (fun k_ => some k_ ≠ ((.slice Ao10 t1244.length co10) : Value).ownBlock) (.slice Ao11 t1245.length co11) t1245) ∧ Aside0 (Kd.R k39 39 wc w.heap.size (fun _ => True) v1252 t1250) ∧ Aside0 (Below w.heap.size w wc))
   case first => as_aux_lemma =>
    have H := HC8.out
    clear HC8
    by_cases c14 : (t1251 != t1255) = true
    · rw [if_pos c14] at H
      have c14b0 : (t1251 != t1255) = true := c14
      (try (have c14b1 : decide (t1251 = t1255) = false := by simpa using c14))
      (try (have c14b2 : (t1251 == t1255) = false := by simpa using c14))
      (try (have c14b3 : ¬ (t1251 = t1255) := by simpa using c14))
      clear c14
      (first | rw [c14b0] | (simp only [i64_w, i32_w]; rw [c14b0]) | skip)
      have H' := zad H
      clear H
      go_wp2
      go_meet
      case rel => exact ⟨_, (true), (by first | rfl | (simp; done) | (simp [*]; done)), H', ⟨by first | omega | exact Nat.le_refl _⟩, ⟨by (with_reducible repeat (first | apply zai | apply zaj | apply zak)); exact HO1247.out⟩, ⟨by (with_reducible repeat (first | apply zai | apply zaj | apply zak)); exact HO1249.out⟩, ⟨by (with_reducible repeat (first | apply zai | apply zaj | apply zak)); exact Kd.R_mono HO1253.out (fun _ hk => trivial)⟩, ⟨by repeat (first | (with_reducible first | exact HB.out | apply zag | apply zae | apply zaf) | exact HB.out)⟩⟩
    · rw [if_neg c14] at H
      have c14b0 : (t1251 != t1255) = false := by simpa using c14
      (try (have c14b1 : decide (t1251 = t1255) = true := by simpa using c14))
      (try (have c14b2 : (t1251 == t1255) = true := by simpa using c14))
      clear c14
      (first | rw [c14b0] | (simp only [i64_w, i32_w]; rw [c14b0]) | skip)
      replace H := Option.bind_eq_some_iff.mp H
      obtain ⟨t1258, A150, H⟩ := H
      replace H : (laws_FnBigGiftsAreFew.j0 k t1244 t1245 t1250 t1255 (!t1258)) = some r := H
      have A15 := zad A150
      clear A150
      have H' := zad H
      clear H
      obtain ⟨Ao16, co16, eo16⟩ := Kd.R_slice HO1253.out
      subst eo16
      obtain ⟨Ao17, co17, eo17⟩ := Kd.R_slice HO1257.out
      subst eo17
      go_wp2_with (first | (go_at_call 61; (with_reducible refine (laws_pGifts.calls k _ _ t1250 _ _ t1254 t1258 _ ?side1 ?side2 ?side3 ?side4 A15.out).mono ?_); (case side1 => repeat (first | exact (Kd.R_reads' HO1253.out).2.2 | (with_reducible refine zal ?_ _) | (with_reducible refine zam ?_ _) | (with_reducible refine zan ?_))); (case side2 => exact (Kd.R_reads' HO1253.out).2.1); (case side3 => repeat (first | exact (Kd.R_reads' HO1257.out).2.2 | (with_reducible refine zal ?_ _) | (with_reducible refine zam ?_ _) | (with_reducible refine zan ?_))); (case side4 => exact (Kd.R_reads' HO1257.out).2.1); rintro e w' ⟨rfl, ⟨nd, rfl⟩⟩))
      go_meet
      case rel => exact ⟨_, (!t1258), (by first | rfl | (simp; done) | (simp [*]; done)), H', ⟨by first | omega | exact Nat.le_refl _⟩, ⟨by (with_reducible repeat (first | apply zai | apply zaj | apply zak)); exact HO1247.out⟩, ⟨by (with_reducible repeat (first | apply zai | apply zaj | apply zak)); exact HO1249.out⟩, ⟨by (with_reducible repeat (first | apply zai | apply zaj | apply zak)); exact Kd.R_mono HO1253.out (fun _ hk => trivial)⟩, ⟨by repeat (first | (with_reducible first | exact HB.out | apply zag | apply zae | apply zaf) | exact HB.out)⟩⟩
   case rest => as_aux_lemma =>
    clear HC8
    try clear c1
    try clear p2
    try clear c4
    try clear c5
    try clear c6
    try clear c9
    try clear c13
    try clear c14
    try clear c14b0
    try clear c14b1
    try clear c14b2
    obtain ⟨kq, x46_7, rfl, HA, HJ7, HO_5, HO_6, HO_7, HB⟩ := hcut
    cases kq with
    | zero => exact absurd HA.out (by simp [laws_FnBigGiftsAreFew.j0])
    | succ kj7 =>
     have H := HA.out
     clear HA
     simp only [laws_FnBigGiftsAreFew.j0] at H
     by_cases c18 : x46_7 = true
     · subst c18
       have H1 : (some false) = some r := by rw [if_pos rfl] at H; exact H
       clear H
       have H := H1
       clear H1
       obtain rfl := Option.some.inj H
       go_wp2
       go_ret
       exact ⟨by first | rfl | (simp [errW_none, errW_some] <;> rfl) | (simp [*, errW_none, errW_some] <;> rfl), by repeat (first | (with_reducible first | exact HB.out | apply zag | apply zae | apply zaf) | exact HB.out)⟩
     · replace c18 := Bool.eq_false_iff.mpr c18
       subst c18
       have H1 : (if t1255 = true then ((impl_FewestUnits.f kj7 t1244 t1245).bind fun bt1259 => ((impl_IsGiftPath.f t1244 t1245 t1250).bind fun bt1261 => (laws_FnBigGiftsAreFew.l0 kj7 t1244 t1250 bt1259.1 bt1259.2 bt1261.1 bt1261.2 0 t1250 (t1250.length : Int) 0))) else (some true)) = some r := by rw [if_neg (show ¬ (false = true) by decide)] at H; exact H
       clear H
       have H := H1
       clear H1
       by_cases c19 : t1255 = true
       · subst c19
         have H1 : ((impl_FewestUnits.f kj7 t1244 t1245).bind fun bt1259 => ((impl_IsGiftPath.f t1244 t1245 t1250).bind fun bt1261 => (laws_FnBigGiftsAreFew.l0 kj7 t1244 t1250 bt1259.1 bt1259.2 bt1261.1 bt1261.2 0 t1250 (t1250.length : Int) 0))) = some r := by rw [if_pos rfl] at H; exact H
         clear H
         have H := H1
         clear H1
         replace H := Option.bind_eq_some_iff.mp H
         obtain ⟨⟨t1259, t1260⟩, A200, H⟩ := H
         replace H : ((impl_IsGiftPath.f t1244 t1245 t1250).bind fun bt1261 => (laws_FnBigGiftsAreFew.l0 kj7 t1244 t1250 t1259 t1260 bt1261.1 bt1261.2 0 t1250 (t1250.length : Int) 0)) = some r := H
         have A20 := zad A200
         clear A200
         replace H := Option.bind_eq_some_iff.mp H
         obtain ⟨⟨t1261, t1262⟩, A210, H⟩ := H
         replace H : (laws_FnBigGiftsAreFew.l0 kj7 t1244 t1250 t1259 t1260 t1261 t1262 0 t1250 (t1250.length : Int) 0) = some r := H
         have A21 := zad A210
         clear A210
         have H' := zad H
         clear H
         go_wp2_with (first | ((with_reducible refine gate_callee (f := 62) rfl ?_); refine goesL_ (some 52) rfl rfl Try.func62 (by kernel_rfl) rfl #[.slice Ao10 t1244.length co10, .slice Ao11 t1245.length co11] rfl (by (try simp only [zat, zau, zav]); first | done | rfl | (simp only [zaw, zax]; rfl)) ?_; (with_reducible refine (impl_FewestUnits.calls kj7 _ _ t1244 _ _ t1245 t1259 t1260 _ ?side1 ?side2 ?side3 ?side4 A20.out).mono ?_); (case side1 => repeat (first | exact (Kd.R_reads' HO_5.out).2.2 | (with_reducible refine zal ?_ _) | (with_reducible refine zam ?_ _) | (with_reducible refine zan ?_))); (case side2 => exact (Kd.R_reads' HO_5.out).2.1); (case side3 => repeat (first | exact (Kd.R_reads' HO_6.out).2.2 | (with_reducible refine zal ?_ _) | (with_reducible refine zam ?_ _) | (with_reducible refine zan ?_))); (case side4 => exact (Kd.R_reads' HO_6.out).2.1); rintro e w22 ⟨rfl, hb⟩; refine ⟨_, rfl, ?_⟩; have n0_ := zad (Kd.R_below (by (with_reducible repeat (first | apply zai | apply zaj | apply zak)); exact HO_5.out) hb); have n1_ := zad (Kd.R_below (by (with_reducible repeat (first | apply zai | apply zaj | apply zak)); exact HO_6.out) hb); have n2_ := zad (Kd.R_below (by (with_reducible repeat (first | apply zai | apply zaj | apply zak)); exact HO_7.out) hb); have n3_ := zad (below_step (by repeat (first | (with_reducible first | exact HB.out | apply zag | apply zae | apply zaf) | exact HB.out)) hb); clear HO_5; clear HO_6; clear HO_7; clear HB; have HO_5 := n0_; have HO_6 := n1_; have HO_7 := n2_; have HB := n3_; clear n0_ n1_ n2_ n3_; (try clear hb); (try clear hb2); (try clear hk); (try clear hi); obtain ⟨Ao23, co23, eo23⟩ := Kd.R_slice HO_7.out; subst eo23) | ((with_reducible refine gate_callee (f := 63) rfl ?_); refine goesL_ (some 59) rfl rfl Try.func63 (by kernel_rfl) rfl #[.slice Ao10 t1244.length co10, .slice Ao11 t1245.length co11, .slice Ao23 t1250.length co23] rfl (by (try simp only [zat, zau, zav]); first | done | rfl | (simp only [zaw, zax]; rfl)) ?_; (with_reducible refine (impl_IsGiftPath.calls _ _ t1244 _ _ t1245 _ _ t1250 t1261 t1262 _ ?side1 ?side2 ?side3 ?side4 ?side5 ?side6 A21.out).mono ?_); (case side1 => repeat (first | exact (Kd.R_reads' HO_5.out).2.2 | (with_reducible refine zal ?_ _) | (with_reducible refine zam ?_ _) | (with_reducible refine zan ?_))); (case side2 => exact (Kd.R_reads' HO_5.out).2.1); (case side3 => repeat (first | exact (Kd.R_reads' HO_6.out).2.2 | (with_reducible refine zal ?_ _) | (with_reducible refine zam ?_ _) | (with_reducible refine zan ?_))); (case side4 => exact (Kd.R_reads' HO_6.out).2.1); (case side5 => repeat (first | exact (Kd.R_reads' HO_7.out).2.2 | (with_reducible refine zal ?_ _) | (with_reducible refine zam ?_ _) | (with_reducible refine zan ?_))); (case side6 => exact (Kd.R_reads' HO_7.out).2.1); rintro e w24 ⟨rfl, hb⟩; refine ⟨_, rfl, ?_⟩; have n0_ := zad (Kd.R_below (by (with_reducible repeat (first | apply zai | apply zaj | apply zak)); exact HO_5.out) hb); have n1_ := zad (Kd.R_below (by (with_reducible repeat (first | apply zai | apply zaj | apply zak)); exact HO_6.out) hb); have n2_ := zad (Kd.R_below (by (with_reducible repeat (first | apply zai | apply zaj | apply zak)); exact HO_7.out) hb); have n3_ := zad (below_step (by repeat (first | (with_reducible first | exact HB.out | apply zag | apply zae | apply zaf) | exact HB.out)) hb); clear HO_5; clear HO_6; clear HO_7; clear HB; have HO_5 := n0_; have HO_6 := n1_; have HO_7 := n2_; have HB := n3_; clear n0_ n1_ n2_ n3_; (try clear hb); (try clear hb2); (try clear hk); (try clear hi)))
         go_loopg [15, 64] kj7 (fun kq v15 v64 w' => ∃ (x15_2 : Int) (x64_2 : Int), v15 = .int .i64 x15_2 ∧ v64 = .int .i64 x64_2 ∧ Aside0 (laws_FnBigGiftsAreFew.l0 kq t1244 t1250 t1259 t1260 t1261 t1262 x15_2 t1250 (t1250.length : Int) x64_2 = some r) ∧ Aside0 (kq ≤ kj7) ∧ Aside0 (Kd.R (Kd.int .i64) 3 w' w.heap.size (fun _ => True) (.slice Ao10 t1244.length co10) t1244) ∧ Aside0 (Kd.R k39 39 w' w.heap.size (fun _ => True) (.slice Ao23 t1250.length co23) t1250) ∧ Aside0 (Kd.R k39 39 w' w.heap.size (fun _ => True) (.slice Ao23 t1250.length co23) t1250) ∧ Aside0 (Below w.heap.size w w'))
         case atStart => exact ⟨(0), (0), (by first | rfl | (simp; done) | (simp [*]; done)), (by first | rfl | (simp; done) | (simp [*]; done)), H', ⟨Nat.le_refl _⟩, ⟨by (with_reducible repeat (first | apply zai | apply zaj | apply zak)); exact Kd.R_mono HO_5.out (fun _ hk => trivial)⟩, ⟨by (with_reducible repeat (first | apply zai | apply zaj | apply zak)); exact HO_7.out⟩, ⟨by (with_reducible repeat (first | apply zai | apply zaj | apply zak)); exact HO_7.out⟩, ⟨by repeat (first | (with_reducible first | exact HB.out | apply zag | apply zae | apply zaf) | exact HB.out)⟩⟩
         case round =>
          clear H'
          try clear c1
          try clear p2
          try clear c4
          try clear c5
          try clear c6
          try clear c9
          try clear c13
          try clear c14
          try clear c14b0
          try clear c14b1
          try clear c14b2
          try clear c18
          try clear c19
          try clear p2
          obtain ⟨x15_2, x64_2, rfl, rfl, HA, HK2, HO_5, HO_7, HO_62, HB⟩ := hrel
          cases gk with
          | zero => exact absurd HA.out (by simp [laws_FnBigGiftsAreFew.l0])
          | succ k2 =>
           have H := HA.out
           clear HA
           simp only [laws_FnBigGiftsAreFew.l0] at H
           by_cases c25 : x64_2 < (t1250.length : Int)
           · rw [if_pos c25] at H
             have c25b0 : decide (x64_2 < (t1250.length : Int)) = true := zaz c25
             clear c25
             by_cases c26 : 0 ≤ x64_2
             · rw [if_pos c26] at H
               have c26b0 : decide (0 ≤ x64_2) = true := zaz c26
               clear c26
               by_cases c27 : x64_2 < (t1250.length : Int)
               · rw [if_pos c27] at H
                 have c27b0 : decide (x64_2 < (t1250.length : Int)) = true := zaz c27
                 clear c27
                 have H' := zad H
                 clear H
                 have p1263 : 0 ≤ (x64_2 : Int) := zas (by first | (with_reducible assumption) | assumption)
                 have q1263 : x64_2 < (t1250.length : Int) := zas (by first | (with_reducible assumption) | assumption)
                 obtain ⟨ad1263, e1263, hx1263_0, hx1263_1, hx1263_2⟩ := at_T39 (Kd.R_reads' HO_62.out).2.2 x64_2 p1263 q1263
                 cases e1263
                 replace p1263 := eq_true p1263
                 replace q1263 := eq_true q1263
                 go_wp2_with (first | ((with_reducible refine gate_dst (N := 17) rfl ?_); (try (refine gate_guard (by rfl) ?_; dsimp only)); refine box_event ?hg (N := 17) ?hd (cs := #[.int .i64 0, .int .i64 0, .int .i64 0]) (t := 39) ?hr ?_; (case hd => rfl); (case hg => rfl); (case hr => first | (go_simp; done) | (go_simp; rfl)); intro gb1264 hg w28 hbox hb; have n0_ := zad (Kd.R_below (by (with_reducible repeat (first | apply zai | apply zaj | apply zak)); exact HO_5.out) hb); have n1_ := zad (Kd.R_below (Kd.R_elderB (by (with_reducible repeat (first | apply zai | apply zaj | apply zak)); exact HO_7.out) gb1264 (Nat.le_of_eq hg.symm)) hb); have n2_ := zad (Kd.R_below (Kd.R_elderB (by (with_reducible repeat (first | apply zai | apply zaj | apply zak)); exact HO_62.out) gb1264 (Nat.le_of_eq hg.symm)) hb); have n3_ := zad (below_step (by repeat (first | (with_reducible first | exact HB.out | apply zag | apply zae | apply zaf) | exact HB.out)) hb); have n4_ := zad (hbox); have n5_ := zad ((by rw [hg]; exact (below_size (by repeat (first | (with_reducible first | exact HB.out | apply zag | apply zae | apply zaf) | exact HB.out))) : w.heap.size ≤ gb1264)); have n6_ := zad ((by rw [hg]; exact (below_size (by repeat (first | (with_reducible first | exact HB.out | apply zag | apply zae | apply zaf) | exact HB.out))) : w.heap.size ≤ gb1264)); clear HO_5; clear HO_7; clear HO_62; clear HB; have HO_5 := n0_; have HO_7 := n1_; have HO_62 := n2_; have HB := n3_; have BK1264 := n4_; have GW1264 := n5_; have GE1264 := n6_; clear n0_ n1_ n2_ n3_ n4_ n5_ n6_; clear hb hbox hg; have hcz29_0 : w28.cell? ⟨gb1264, 0, none⟩ = some (.int .i64 0) := (blk_cell BK1264.out 0).trans rfl; have hcz29_1 : w28.cell? ⟨gb1264, 1, none⟩ = some (.int .i64 0) := (blk_cell BK1264.out 1).trans rfl; have hcz29_2 : w28.cell? ⟨gb1264, 2, none⟩ = some (.int .i64 0) := (blk_cell BK1264.out 2).trans rfl; have hfz29_0 := blk_frozen BK1264.out 0; have hfz29_1 := blk_frozen BK1264.out 1; have hfz29_2 := blk_frozen BK1264.out 2))
                 go_roundg k2
                 case measure => have := HJ7.out; have := HK2.out; omega
                 case rel => exact ⟨(wrap64 (x15_2 + ((rd_T39 t1250 x64_2).f2))), (wrap64 (x64_2 + 1)), (by first | rfl | (simp; done) | (simp [*]; done)), (by first | rfl | (simp; done) | (simp [*]; done)), H', ⟨by have := HJ7.out; have := HK2.out; omega⟩, ⟨by (with_reducible repeat (first | apply zai | apply zaj | apply zak)); exact Kd.R_mono (Kd.R_far (p := ⟨gb1264, 2, none⟩) (Kd.R_far (p := ⟨gb1264, 1, none⟩) (Kd.R_far (p := ⟨gb1264, 0, none⟩) (Kd.R_types HO_5.out BK1264.out (by decide)) (fun _ hk => hk.2) (.int .i64 ((rd_T39 t1250 x64_2).f0))) (fun _ hk => hk.2) (.int .i64 ((rd_T39 t1250 x64_2).f1))) (fun _ hk => hk.2) (.int .i64 ((rd_T39 t1250 x64_2).f2))) (fun _ hk => trivial)⟩, ⟨by (with_reducible repeat (first | apply zai | apply zaj | apply zak)); exact Kd.R_mono (Kd.R_far (p := ⟨gb1264, 2, none⟩) (Kd.R_far (p := ⟨gb1264, 1, none⟩) (Kd.R_far (p := ⟨gb1264, 0, none⟩) (Kd.R_mono HO_7.out (fun k_ hk => (⟨hk, hk.2⟩ : _ ∧ k_ ≠ gb1264))) (fun _ hk => hk.2) (.int .i64 ((rd_T39 t1250 x64_2).f0))) (fun _ hk => hk.2) (.int .i64 ((rd_T39 t1250 x64_2).f1))) (fun _ hk => hk.2) (.int .i64 ((rd_T39 t1250 x64_2).f2))) (fun _ hk => trivial)⟩, ⟨by (with_reducible repeat (first | apply zai | apply zaj | apply zak)); exact Kd.R_mono (Kd.R_far (p := ⟨gb1264, 2, none⟩) (Kd.R_far (p := ⟨gb1264, 1, none⟩) (Kd.R_far (p := ⟨gb1264, 0, none⟩) (Kd.R_mono HO_62.out (fun k_ hk => (⟨hk, hk.2⟩ : _ ∧ k_ ≠ gb1264))) (fun _ hk => hk.2) (.int .i64 ((rd_T39 t1250 x64_2).f0))) (fun _ hk => hk.2) (.int .i64 ((rd_T39 t1250 x64_2).f1))) (fun _ hk => hk.2) (.int .i64 ((rd_T39 t1250 x64_2).f2))) (fun _ hk => trivial)⟩, ⟨by repeat (first | (with_reducible first | exact HB.out | apply zag | apply zae | apply zaf | refine zah ?_ GE1264.out) | exact HB.out)⟩⟩
               · rw [if_neg c27] at H
                 exact absurd H (by simp)
             · rw [if_neg c26] at H
               exact absurd H (by simp)
           · rw [if_neg c25] at H
             have c25b0 : decide (x64_2 < (t1250.length : Int)) = false := decide_eq_false c25
             clear c25
             by_cases c30 : t1260 = true
             · subst c30
               have H1 : (if t1262 = true then (if t1261 = true then (if x15_2 = t1259 then (some (decide ((t1250.length : Int) < (t1244.length : Int)))) else (some false)) else (some false)) else (some false)) = some r := by rw [if_pos rfl] at H; exact H
               clear H
               have H := H1
               clear H1
               by_cases c31 : t1262 = true
               · subst c31
                 have H1 : (if t1261 = true then (if x15_2 = t1259 then (some (decide ((t1250.length : Int) < (t1244.length : Int)))) else (some false)) else (some false)) = some r := by rw [if_pos rfl] at H; exact H
                 clear H
                 have H := H1
                 clear H1
                 by_cases c32 : t1261 = true
                 · subst c32
                   have H1 : (if x15_2 = t1259 then (some (decide ((t1250.length : Int) < (t1244.length : Int)))) else (some false)) = some r := by rw [if_pos rfl] at H; exact H
                   clear H
                   have H := H1
                   clear H1
                   by_cases c33 : x15_2 = t1259
                   · rw [if_pos c33] at H
                     have c33b0 : (x15_2 == t1259) = true := beq_iff_eq.mpr c33
                     have c33b1 : (x15_2 != t1259) = false := bne_eq_false_iff_eq.mpr c33
                     clear c33
                     obtain rfl := Option.some.inj H
                     go_wp2
                     go_ret
                     exact ⟨by first | rfl | (simp [errW_none, errW_some] <;> rfl) | (simp [*, errW_none, errW_some] <;> rfl), by repeat (first | (with_reducible first | exact HB.out | apply zag | apply zae | apply zaf) | exact HB.out)⟩
                   · rw [if_neg c33] at H
                     have c33b0 : (x15_2 == t1259) = false := beq_eq_false_iff_ne.mpr c33
                     have c33b1 : (x15_2 != t1259) = true := bne_iff_ne.mpr c33
                     obtain rfl := Option.some.inj H
                     go_wp2
                     go_ret
                     exact ⟨by first | rfl | (simp [errW_none, errW_some] <;> rfl) | (simp [*, errW_none, errW_some] <;> rfl), by repeat (first | (with_reducible first | exact HB.out | apply zag | apply zae | apply zaf) | exact HB.out)⟩
                 · replace c32 := Bool.eq_false_iff.mpr c32
                   subst c32
                   have H1 : (some false) = some r := by rw [if_neg (show ¬ (false = true) by decide)] at H; exact H
                   clear H
                   have H := H1
                   clear H1
                   obtain rfl := Option.some.inj H
                   go_wp2
                   go_ret
                   exact ⟨by first | rfl | (simp [errW_none, errW_some] <;> rfl) | (simp [*, errW_none, errW_some] <;> rfl), by repeat (first | (with_reducible first | exact HB.out | apply zag | apply zae | apply zaf) | exact HB.out)⟩
               · replace c31 := Bool.eq_false_iff.mpr c31
                 subst c31
                 have H1 : (some false) = some r := by rw [if_neg (show ¬ (false = true) by decide)] at H; exact H
                 clear H
                 have H := H1
                 clear H1
                 obtain rfl := Option.some.inj H
                 go_wp2
                 go_ret
                 exact ⟨by first | rfl | (simp [errW_none, errW_some] <;> rfl) | (simp [*, errW_none, errW_some] <;> rfl), by repeat (first | (with_reducible first | exact HB.out | apply zag | apply zae | apply zaf) | exact HB.out)⟩
             · replace c30 := Bool.eq_false_iff.mpr c30
               subst c30
               have H1 : (some false) = some r := by rw [if_neg (show ¬ (false = true) by decide)] at H; exact H
               clear H
               have H := H1
               clear H1
               obtain rfl := Option.some.inj H
               go_wp2
               go_ret
               exact ⟨by first | rfl | (simp [errW_none, errW_some] <;> rfl) | (simp [*, errW_none, errW_some] <;> rfl), by repeat (first | (with_reducible first | exact HB.out | apply zag | apply zae | apply zaf) | exact HB.out)⟩
       · replace c19 := Bool.eq_false_iff.mpr c19
         subst c19
         have H1 : (some true) = some r := by rw [if_neg (show ¬ (false = true) by decide)] at H; exact H
         clear H
         have H := H1
         clear H1
         obtain rfl := Option.some.inj H
         go_wp2
         go_ret
         exact ⟨by first | rfl | (simp [errW_none, errW_some] <;> rfl) | (simp [*, errW_none, errW_some] <;> rfl), by repeat (first | (with_reducible first | exact HB.out | apply zag | apply zae | apply zaf) | exact HB.out)⟩
def laws_FnBigGiftsAreFew.Pure : Prop := ∀ (l0 : List Int) (l1 : List Int), l0.length ≤ maxLen → l0.length * 1 ≤ 140737488351232 → (∀ x ∈ l0, (Lit.int .u8 x).wf = true) → l1.length ≤ maxLen → l1.length * 1 ≤ 140737488351232 → (∀ x ∈ l1, (Lit.int .u8 x).wf = true) → ∃ k, laws_FnBigGiftsAreFew.f k l0 l1 = some true
theorem laws_FnBigGiftsAreFew.walk (P : laws_FnBigGiftsAreFew.Pure) (a0 : Option Addr) (len0 cap0 : Nat) (z0 : List Int) (a1 : Option Addr) (len1 cap1 : Nat) (z1 : List Int) (w : World) (w0 : (a0 = none ∧ len0 = 0 ∧ cap0 = 0 ∧ z0 = []) ∨ ∃ x, a0 = some x ∧ len0 ≤ cap0 ∧ cap0 ≤ maxLen ∧ z0.length = cap0 ∧ (∀ i, i < z0.length → w.cell? (x.add i) = some (.int .u8 (z0.getD i 0))) ∧ ∀ n ∈ z0, (Lit.int .u8 n).wf = true) (y0 : len0 * 1 ≤ 140737488351232) (w1 : (a1 = none ∧ len1 = 0 ∧ cap1 = 0 ∧ z1 = []) ∨ ∃ x, a1 = some x ∧ len1 ≤ cap1 ∧ cap1 ≤ maxLen ∧ z1.length = cap1 ∧ (∀ i, i < z1.length → w.cell? (x.add i) = some (.int .u8 (z1.getD i 0))) ∧ ∀ n ∈ z1, (Lit.int .u8 n).wf = true) (y1 : len1 * 1 ≤ 140737488351232) :
 Calls Try.prog 9 #[.slice a0 len0 cap0, .slice a1 len1 cap1] w fun e w' => e = .returned (.bool true) ∧ Below w.heap.size w w' := by
 obtain ⟨l0, rfl, hr0, hm0, hw0, hc0⟩ := ReadsInt.ofRowC w0
 obtain ⟨l1, rfl, hr1, hm1, hw1, hc1⟩ := ReadsInt.ofRowC w1
 obtain ⟨k, h⟩ := P l0 l1 hm0 y0 hw0 hm1 y1 hw1
 refine (laws_FnBigGiftsAreFew.calls k _ _ l0 _ _ l1 true w (Kd.C_of_reads (d := (0 : Int)) (h1 := fun _ => rfl) hr0) hc0 (Kd.C_of_reads (d := (0 : Int)) (h1 := fun _ => rfl) hr1) hc1 h).mono ?_
 rintro e w' ⟨rfl, hd⟩
 exact ⟨rfl, hd⟩
theorem mx_eq (a b : Int) : mx a b = max a b := by unfold mx; omega
theorem mn_eq (a b : Int) : mn a b = min a b := by unfold mn; omega
def psums : Int → List Int → List Int
 | _, [] => []
 | s, x :: l => (s + x) :: psums (s + x) l
def psStep (s : List Int × Int) (x : Int) : List Int × Int := (s.1 ++ [s.2 + x], s.2 + x)
theorem foldl_ps : ∀ (l : List Int) (s : List Int × Int), (l.foldl psStep s).1 = s.1 ++ psums s.2 l
 | [], s => by simp [psums]
 | x :: l, s => by
  rw [List.foldl_cons, foldl_ps l]
  simp [psStep, psums]
theorem psums_length : ∀ (l : List Int) (s : Int), (psums s l).length = l.length
 | [], _ => rfl
 | x :: l, s => by simp [psums, psums_length l]
theorem liSums_ev (l : List Int) (h : Sm l) : Ev (fun k => spec_liSums.f k l) (psums 0 l) := by
 unfold spec_liSums.f
 have hl := h.1
 have h := ev_fold (xs := l) (g := fun k s i => spec_liSums.l0 k s.1 s.2 l (l.length : Int) i) psStep (fun s i => s.1.length = i ∧ 0 ≤ s.2 ∧ s.2 ≤ 1000 * (i : Int)) (fun s => s.1)
  (fun s _ => Ev.succ (by simp only [spec_liSums.l0, if_neg (Int.lt_irrefl _)]; exact Ev.now _))
  (fun i hi s r hs _ hr => Ev.succ (by
   have hb := h.2 _ (List.getElem_mem hi)
   simp only [spec_liSums.l0, if_pos (show (i : Int) < (l.length : Int) by omega), if_pos (show (0 : Int) ≤ (i : Int) by omega), rdn hi, if_pos (show s.1.length < 17592186044416 by omega), wsucc hi (by omega), w64 (x := s.2 + l[i]) (by omega) (by omega)]
   exact hr))
  (fun i hi s hs => by
   have hb := h.2 _ (List.getElem_mem hi)
   simp only [psStep, List.length_append, List.length_cons, List.length_nil]
   omega) l.length 0 ([], 0) (by omega) (by simp)
 rw [List.drop_zero, foldl_ps] at h
 exact h
theorem partial_l (l : List Int) (h : Sm l) : Ev (fun k => impl_partial.l0 k [] 0 l (l.length : Int) 0) (psums 0 l) := by
 have hl := h.1
 have h := ev_fold (xs := l) (g := fun k s i => impl_partial.l0 k s.1 s.2 l (l.length : Int) i) psStep (fun s i => s.1.length = i ∧ 0 ≤ s.2 ∧ s.2 ≤ 1000 * (i : Int)) (fun s => s.1)
  (fun s _ => Ev.succ (by simp only [impl_partial.l0, if_neg (Int.lt_irrefl _)]; exact Ev.now _))
  (fun i hi s r hs _ hr => Ev.succ (by
   have hb := h.2 _ (List.getElem_mem hi)
   simp only [impl_partial.l0, if_pos (show (i : Int) < (l.length : Int) by omega), if_pos (show (0 : Int) ≤ (i : Int) by omega), rdn hi, if_pos (show s.1.length < 17592186044416 by omega), wsucc hi (by omega), w64 (x := s.2 + l[i]) (by omega) (by omega)]
   exact hr))
  (fun i hi s hs => by
   have hb := h.2 _ (List.getElem_mem hi)
   simp only [psStep, List.length_append, List.length_cons, List.length_nil]
   omega) l.length 0 ([], 0) (by omega) (by simp)
 rw [List.drop_zero, foldl_ps] at h
 exact h
def partL (l : List Int) : List Int := psums 0 (descL l)
theorem liPartial_ev (l : List Int) (h : Sm l) : Ev (fun k => spec_liPartial.f k l) (partL l) := by
 unfold spec_liPartial.f
 exact Ev.bind (liRank_ev l (by have := h.1; omega)) (Ev.bind (liSums_ev _ (sm_desc h)) (Ev.now _))
theorem partial_ev (l : List Int) (h : Sm l) : Ev (fun k => impl_partial.f k l) (partL l) := by
 unfold impl_partial.f
 simp only [ranking_eq h, Option.bind_some]
 exact partial_l _ (sm_desc h)
theorem partL_length (l : List Int) : (partL l).length = l.length := by
 unfold partL
 rw [psums_length, descL_length]
def overL : Int → List Int → List Int → Int
 | i, x :: xs, y :: ys => if x > y then i + 1 else overL (i + 1) xs ys
 | _, _, _ => 0
theorem liOver_l (p q : List Int) (h : p.length ≤ q.length) (hp : p.length ≤ 1000000) : ∀ (n i : Nat), i + n = p.length → Ev (fun k => spec_liOver.l0 k p q (p.length : Int) (i : Int)) (overL (i : Int) (p.drop i) (q.drop i))
 | 0, i, hi => by
  refine Ev.succ ?_
  simp only [spec_liOver.l0, if_neg (show ¬ (i : Int) < (p.length : Int) by omega)]
  rw [List.drop_eq_nil_of_le (by omega), overL]
  exact Ev.now _
  simp
 | n + 1, i, hi => by
  have h1 : i < p.length := by omega
  have h2 : i < q.length := by omega
  refine Ev.succ ?_
  simp only [spec_liOver.l0, if_pos (show (i : Int) < (p.length : Int) by omega), if_pos (show (i : Int) < (q.length : Int) by omega), if_pos (show (0 : Int) ≤ (i : Int) by omega), rdn h1, rdn h2, wsucc h1 (by omega)]
  rw [List.drop_eq_getElem_cons h1, List.drop_eq_getElem_cons h2, overL]
  refine Ev.ite (fun _ => ?_) (fun _ => ?_)
  · rw [show ((i : Int) + 1) = ((i + 1 : Nat) : Int) by omega]
    exact Ev.now _
  · rw [show ((i : Int) + 1) = ((i + 1 : Nat) : Int) by omega]
    exact liOver_l p q h hp n (i + 1) (by omega)
theorem refused_l (p q : List Int) (h : p.length ≤ q.length) (hp : p.length ≤ 1000000) : ∀ (n i : Nat), i + n = p.length → Ev (fun k => impl_refused.l0 k q p (p.length : Int) (i : Int)) (overL (i : Int) (p.drop i) (q.drop i))
 | 0, i, hi => by
  refine Ev.succ ?_
  simp only [impl_refused.l0, if_neg (show ¬ (i : Int) < (p.length : Int) by omega)]
  rw [List.drop_eq_nil_of_le (by omega), overL]
  exact Ev.now _
  simp
 | n + 1, i, hi => by
  have h1 : i < p.length := by omega
  have h2 : i < q.length := by omega
  refine Ev.succ ?_
  simp only [impl_refused.l0, if_pos (show (i : Int) < (p.length : Int) by omega), if_pos (show (i : Int) < (q.length : Int) by omega), if_pos (show (0 : Int) ≤ (i : Int) by omega), rdn h1, rdn h2, wsucc h1 (by omega)]
  rw [List.drop_eq_getElem_cons h1, List.drop_eq_getElem_cons h2, overL]
  refine Ev.ite (fun _ => ?_) (fun _ => ?_)
  · rw [show ((i : Int) + 1) = ((i + 1 : Nat) : Int) by omega]
    exact Ev.now _
  · rw [show ((i : Int) + 1) = ((i + 1 : Nat) : Int) by omega]
    exact refused_l p q h hp n (i + 1) (by omega)
def overR (a b : List Int) : Int := overL 0 (partL a) (partL b)
theorem liOver_ev (a b : List Int) (ha : Sm a) (hb : Sm b) (h : a.length ≤ b.length) : Ev (fun k => spec_liOver.f k a b) (overR a b) := by
 unfold spec_liOver.f
 exact Ev.bind (liPartial_ev a ha) (Ev.bind (liPartial_ev b hb) (liOver_l _ _ (by rw [partL_length, partL_length]; exact h) (by rw [partL_length]; have := ha.1; omega) (partL a).length 0 (by omega)))
theorem refused_ev (a b : List Int) (ha : Sm a) (hb : Sm b) (h : a.length ≤ b.length) : Ev (fun k => impl_refused.f k a b) (overR a b) := by
 unfold impl_refused.f
 exact Ev.bind (partial_ev b hb) (Ev.bind (partial_ev a ha) (refused_l _ _ (by rw [partL_length, partL_length]; exact h) (by rw [partL_length]; have := ha.1; omega) (partL a).length 0 (by omega)))
theorem overL_zero : ∀ (p q : List Int) (i : Int), 0 ≤ i → (overL i p q = 0 ↔ ∀ (j : Nat) (h1 : j < p.length) (h2 : j < q.length), p[j] ≤ q[j])
 | [], q, i, _ => by simp [overL]
 | x :: p, [], i, _ => by simp [overL]
 | x :: p, y :: q, i, h => by
  unfold overL
  by_cases c : x > y
  · rw [if_pos c]
    refine ⟨fun h' => by omega, fun h' => ?_⟩
    have := h' 0 (by simp) (by simp)
    simp only [List.getElem_cons_zero] at this
    omega
  · rw [if_neg c, overL_zero p q (i + 1) (by omega)]
    constructor
    · intro h' j h1 h2
      cases j with
      | zero => simp only [List.getElem_cons_zero]; omega
      | succ j =>
       rw [List.getElem_cons_succ, List.getElem_cons_succ]
       exact h' j (by rw [List.length_cons] at h1; omega) (by rw [List.length_cons] at h2; omega)
    · intro h' j h1 h2
      have h3 := h' (j + 1) (by rw [List.length_cons]; omega) (by rw [List.length_cons]; omega)
      rw [List.getElem_cons_succ, List.getElem_cons_succ] at h3
      exact h3
def majB (a b : List Int) : Bool := if fitB a b = true then (overR a b == 0) else false
theorem liBelow_ev (a b : List Int) (ha : Sm a) (hb : Sm b) : Ev (fun k => spec_liBelow.f k a b) (majB a b) := by
 unfold spec_liBelow.f majB
 exact Ev.bind (liFit_ev a b ha hb) (Ev.ite (fun h => Ev.bind (liOver_ev a b ha hb (by have := (fitB_iff a b).1 h; omega)) (Ev.now _)) (fun _ => Ev.now _))
theorem isMajorized_ev (a b : List Int) (ha : Sm a) (hb : Sm b) : Ev (fun k => impl_isMajorized.f k a b) (majB a b) := by
 unfold impl_isMajorized.f majB
 exact Ev.bind (doFit_ev a b ha hb) (Ev.ite (fun h => Ev.bind (refused_ev a b ha hb (by have := (fitB_iff a b).1 h; omega)) (Ev.now _)) (fun _ => Ev.now _))
theorem majB_iff (a b : List Int) : majB a b = true ↔ a.length = b.length ∧ a.sum = b.sum ∧ ∀ (j : Nat) (h1 : j < (partL a).length) (h2 : j < (partL b).length), (partL a)[j] ≤ (partL b)[j] := by
 unfold majB overR
 by_cases h : fitB a b = true
 · rw [if_pos h, beq_iff_eq, overL_zero _ _ _ (Int.le_refl _)]
   have := (fitB_iff a b).1 h
   simp only [this, true_and]
 · rw [if_neg h]
   rw [fitB_iff] at h
   constructor
   · intro h'
     exact absurd h' (by decide)
   · intro h'
     exact absurd ⟨h'.1, h'.2.1⟩ h
def pre (x : List Int) (m : Nat) : Int := (x.take m).sum
theorem pre_zero (x : List Int) : pre x 0 = 0 := rfl
theorem pre_succ {x : List Int} {m : Nat} (h : m < x.length) : pre x (m + 1) = pre x m + rd x (m : Int) := by
 unfold pre
 rw [List.take_succ_eq_append_getElem h, List.sum_append, rdn h, List.sum_cons, List.sum_nil, Int.add_zero]
theorem pre_all {x : List Int} {m : Nat} (h : x.length ≤ m) : pre x m = x.sum := by
 unfold pre
 rw [List.take_of_length_le h]
theorem psums_get : ∀ (l : List Int) (s : Int) (j : Nat) (h : j < (psums s l).length), (psums s l)[j] = s + pre l (j + 1)
 | [], s, j, h => by simp [psums] at h
 | x :: l, s, 0, h => by simp [psums, pre]
 | x :: l, s, j + 1, h => by
  have h' : j < (psums (s + x) l).length := by
   rw [psums, List.length_cons] at h
   omega
  have := psums_get l (s + x) j h'
  simp only [psums, List.getElem_cons_succ]
  rw [this]
  simp only [pre, List.take_succ_cons, List.sum_cons]
  omega
def Dom (x t : List Int) : Prop := x.length = t.length ∧ x.sum = t.sum ∧ ∀ m, pre t m ≤ pre x m
theorem majB_dom (a b : List Int) : majB a b = true ↔ Dom (descL b) (descL a) := by
 rw [majB_iff]
 unfold Dom
 rw [descL_length, descL_length, descL_sum, descL_sum]
 constructor
 · rintro ⟨h1, h2, h3⟩
   refine ⟨h1.symm, h2.symm, fun m => ?_⟩
   cases m with
   | zero => rw [pre_zero, pre_zero]; exact Int.le_refl _
   | succ m =>
    by_cases hm : m < a.length
    · have h := h3 m (by rw [partL_length]; exact hm) (by rw [partL_length]; omega)
      unfold partL at h
      rw [psums_get, psums_get] at h
      omega
    · rw [pre_all (by rw [descL_length]; omega), pre_all (by rw [descL_length]; omega), descL_sum, descL_sum]
      omega
 · rintro ⟨h1, h2, h3⟩
   refine ⟨h1.symm, h2.symm, fun j q1 q2 => ?_⟩
   have e1 : (partL a)[j] = 0 + pre (descL a) (j + 1) := psums_get _ _ _ q1
   have e2 : (partL b)[j] = 0 + pre (descL b) (j + 1) := psums_get _ _ _ q2
   have := h3 (j + 1)
   omega
theorem ext_rd {x t : List Int} (hl : x.length = t.length) (h : ∀ k : Nat, k < x.length → rd x (k : Int) = rd t (k : Int)) : x = t := by
 refine List.ext_getElem hl fun k h1 h2 => ?_
 have := h k h1
 rw [rdn h1, rdn h2] at this
 exact this
theorem desc_rd {x : List Int} (h : Desc x) {a b : Nat} (hab : a ≤ b) (hb : b < x.length) : rd x (b : Int) ≤ rd x (a : Int) := by
 rw [rdn hb, rdn (show a < x.length by omega)]
 rcases Nat.lt_or_ge a b with hlt | hge
 · unfold Desc at h
   exact List.pairwise_iff_getElem.1 h a b (by omega) hb hlt
 · have : a = b := by omega
   subst this
   exact Int.le_refl _
theorem desc_of_rd {x : List Int} (h : ∀ k : Nat, k + 1 < x.length → rd x ((k + 1 : Nat) : Int) ≤ rd x (k : Int)) : Desc x := by
 have key : ∀ (d a : Nat), a + d < x.length → rd x ((a + d : Nat) : Int) ≤ rd x (a : Int) := by
  intro d
  induction d with
  | zero => intro a _; exact Int.le_refl _
  | succ d ih =>
   intro a ha
   have h1 := ih a (by omega)
   have h2 := h (a + d) (by omega)
   have e : a + (d + 1) = a + d + 1 := by omega
   rw [e]
   omega
 unfold Desc
 rw [List.pairwise_iff_getElem]
 intro i j hi hj hij
 have := key (j - i) i (by omega)
 rw [show i + (j - i) = j from by omega, rdn hj, rdn hi] at this
 exact this
structure Nx (x t : List Int) (i j : Nat) : Prop where
 lt : i < j
 hj : j < x.length
 jlt : rd x (j : Int) < rd t (j : Int)
 bef : ∀ k : Nat, k < j → rd t (k : Int) ≤ rd x (k : Int)
 igt : rd t (i : Int) < rd x (i : Int)
 btw : ∀ k : Nat, i < k → k < j → rd x (k : Int) ≤ rd t (k : Int)
theorem least_lt (P : Nat → Prop) (n : Nat) : (∃ k, k < n ∧ P k) → ∃ j, j < n ∧ P j ∧ ∀ k, k < j → ¬ P k := by
 induction n with
 | zero => rintro ⟨k, hk, _⟩; omega
 | succ n ih =>
  rintro ⟨k, hk, hp⟩
  by_cases h : ∃ k, k < n ∧ P k
  · obtain ⟨j, h1, h2, h3⟩ := ih h
    exact ⟨j, by omega, h2, h3⟩
  · refine ⟨k, hk, hp, fun q hq hpq => h ⟨q, by omega, hpq⟩⟩
theorem last_lt (P : Nat → Prop) (n : Nat) : (∃ k, k < n ∧ P k) → ∃ j, j < n ∧ P j ∧ ∀ k, j < k → k < n → ¬ P k := by
 induction n with
 | zero => rintro ⟨k, hk, _⟩; omega
 | succ n ih =>
  rintro ⟨k, hk, hp⟩
  by_cases h : P n
  · exact ⟨n, by omega, h, fun q h1 h2 => by omega⟩
  · have hk' : k < n := by
     rcases Nat.lt_or_ge k n with h' | h'
     · exact h'
     · have : k = n := by omega
       subst this
       exact absurd hp h
    obtain ⟨j, h1, h2, h3⟩ := ih ⟨k, hk', hp⟩
    refine ⟨j, by omega, h2, fun q hq hq2 => ?_⟩
    rcases Nat.lt_or_ge q n with h' | h'
    · exact h3 q hq h'
    · have : q = n := by omega
      subst this
      exact h
theorem pre_le {x t : List Int} (hl : x.length = t.length) : ∀ m : Nat, m ≤ x.length → (∀ k : Nat, k < m → rd x (k : Int) ≤ rd t (k : Int)) → pre x m ≤ pre t m
 | 0, _, _ => by rw [pre_zero, pre_zero]; exact Int.le_refl _
 | m + 1, hm, h => by
  have ih := pre_le hl m (by omega) (fun k hk => h k (by omega))
  have := h m (by omega)
  rw [pre_succ (by omega), pre_succ (by omega)]
  omega
theorem pre_lt {x t : List Int} (hl : x.length = t.length) : ∀ m : Nat, m ≤ x.length → (∀ k : Nat, k < m → rd x (k : Int) ≤ rd t (k : Int)) → (∃ k : Nat, k < m ∧ rd x (k : Int) < rd t (k : Int)) → pre x m < pre t m
 | 0, _, _, ⟨k, hk, _⟩ => by omega
 | m + 1, hm, h, ⟨k, hk, hk2⟩ => by
  have h2 := h m (by omega)
  rw [pre_succ (by omega), pre_succ (by omega)]
  rcases Nat.lt_or_ge k m with hlt | hge
  · have := pre_lt hl m (by omega) (fun k hk => h k (by omega)) ⟨k, hlt, hk2⟩
    omega
  · have : k = m := by omega
    subst this
    have := pre_le hl k (by omega) (fun k hk => h k (by omega))
    omega
theorem nx_exists {x t : List Int} (hd : Dom x t) (hne : x ≠ t) : ∃ i j, Nx x t i j := by
 obtain ⟨hl, hs, hp⟩ := hd
 have h1 : ∃ k : Nat, k < x.length ∧ rd x (k : Int) < rd t (k : Int) := by
  refine Classical.byContradiction fun hno => ?_
  have hge : ∀ k : Nat, k < x.length → rd t (k : Int) ≤ rd x (k : Int) := fun k hk => by
   rcases Int.lt_or_le (rd x (k : Int)) (rd t (k : Int)) with h | h
   · exact absurd ⟨k, hk, h⟩ hno
   · exact h
  refine hne (ext_rd hl fun k hk => ?_)
  rcases Int.lt_or_le (rd t (k : Int)) (rd x (k : Int)) with h | h
  · have := pre_lt hl.symm x.length (by omega) (fun k hk => hge k hk) ⟨k, hk, h⟩
    rw [pre_all (by omega), pre_all (by omega)] at this
    omega
  · have := hge k hk
    omega
 obtain ⟨j, hj, hjlt, hbef⟩ := least_lt _ _ h1
 have hbef' : ∀ k : Nat, k < j → rd t (k : Int) ≤ rd x (k : Int) := fun k hk => by
  have := hbef k hk
  omega
 have h2 : ∃ k : Nat, k < j ∧ rd t (k : Int) < rd x (k : Int) := by
  refine Classical.byContradiction fun hno => ?_
  have hle : ∀ k : Nat, k < j + 1 → rd x (k : Int) ≤ rd t (k : Int) := fun k hk => by
   rcases Nat.lt_or_ge k j with h | h
   · rcases Int.lt_or_le (rd t (k : Int)) (rd x (k : Int)) with h' | h'
     · exact absurd ⟨k, h, h'⟩ hno
     · exact h'
   · have : k = j := by omega
     subst this
     omega
  have := pre_lt hl (j + 1) (by omega) hle ⟨j, by omega, hjlt⟩
  have := hp (j + 1)
  omega
 obtain ⟨i, hi, higt, hbtw⟩ := last_lt _ _ h2
 exact ⟨i, j, hi, hj, hjlt, hbef', higt, fun k h1 h2 => by
  have := hbtw k h1 h2
  omega⟩
theorem giveL_length (l : List Int) (f t a : Int) : (giveL l f t a).length = l.length := by
 unfold giveL
 rw [List.length_set, List.length_set]
theorem giveL_rd (l : List Int) (i j : Nat) (a : Int) (hi : i < l.length) (hj : j < l.length) (hij : i ≠ j) (k : Nat) : rd (giveL l (i : Int) (j : Int) a) (k : Int) = if k = j then rd l (j : Int) + a else if k = i then rd l (i : Int) - a else rd l (k : Int) := by
 unfold giveL
 by_cases h1 : k = j
 · subst h1
   rw [if_pos rfl, rd_set_self _ (by omega) (by rw [List.length_set]; omega)]
 · rw [if_neg h1, rd_set_ne _ (by omega) (by omega) (by omega)]
   by_cases h2 : k = i
   · subst h2
     rw [if_pos rfl, rd_set_self _ (by omega) (by omega)]
   · rw [if_neg h2, rd_set_ne _ (by omega) (by omega) (by omega)]
theorem giveL_pre (l : List Int) (i j : Nat) (a : Int) (hi : i < l.length) (hj : j < l.length) (hij : i ≠ j) : ∀ m : Nat, m ≤ l.length → pre (giveL l (i : Int) (j : Int) a) m = pre l m - (if i < m then a else 0) + (if j < m then a else 0)
 | 0, _ => by rw [pre_zero, pre_zero, if_neg (by omega), if_neg (by omega)]; omega
 | m + 1, h => by
  rw [pre_succ (by rw [giveL_length]; omega), pre_succ (by omega), giveL_pre l i j a hi hj hij m (by omega), giveL_rd l i j a hi hj hij m]
  by_cases h1 : m = j
  · subst h1
    rw [if_pos rfl, if_neg (show ¬ m < m by omega), if_pos (show m < m + 1 by omega)]
    by_cases h3 : i < m
    · rw [if_pos h3, if_pos (by omega)]; omega
    · rw [if_neg h3, if_neg (by omega)]; omega
  · rw [if_neg h1]
    by_cases h2 : m = i
    · subst h2
      rw [if_pos rfl, if_neg (show ¬ m < m by omega), if_pos (show m < m + 1 by omega)]
      by_cases h3 : j < m
      · rw [if_pos h3, if_pos (by omega)]; omega
      · rw [if_neg h3, if_neg (by omega)]; omega
    · rw [if_neg h2]
      have e1 : i < m + 1 ↔ i < m := by omega
      have e2 : j < m + 1 ↔ j < m := by omega
      simp only [e1, e2]
      omega
theorem giveL_sum (l : List Int) (i j : Nat) (a : Int) (hi : i < l.length) (hj : j < l.length) (hij : i ≠ j) : (giveL l (i : Int) (j : Int) a).sum = l.sum := by
 have h := giveL_pre l i j a hi hj hij l.length (Nat.le_refl _)
 rw [pre_all (by rw [giveL_length]; omega), pre_all (Nat.le_refl _), if_pos hi, if_pos hj] at h
 omega
def spec_l1Most.f (a0 : Int) (a1 : Int) : Option (Int) := if a0 > a1 then (some a0) else (some a1)
def unitL (p q : List Int) : Int := (List.zipWith (fun x y => max 0 (x - y)) p q).sum
theorem unitL_drop {p q : List Int} {i : Nat} (hi : i < p.length) (hj : i < q.length) : unitL (p.drop i) (q.drop i) = max 0 (p[i] - q[i]) + unitL (p.drop (i + 1)) (q.drop (i + 1)) := by
 unfold unitL
 rw [List.drop_eq_getElem_cons hi, List.drop_eq_getElem_cons hj, List.zipWith_cons_cons, List.sum_cons]
theorem unitL_end {p q : List Int} {i : Nat} (hi : p.length ≤ i) : unitL (p.drop i) (q.drop i) = 0 := by
 unfold unitL
 rw [List.drop_eq_nil_of_le hi]
 rfl
def betB (a b : List Int) : Bool := if goodL a = true then (if goodL b = true then majB a b else false) else false
theorem isBetween_ev (a b : List Int) (ha : a.length ≤ 1048576) (hb : b.length ≤ 1048576) : Ev (fun k => impl_isBetween.f k a b) (betB a b) := by
 unfold impl_isBetween.f betB
 refine Ev.bind (areLists_ev a b ha hb) ?_
 by_cases ga : goodL a = true
 · by_cases gb : goodL b = true
   · simp only [ga, gb, if_true]
     exact Ev.bind (isMajorized_ev a b (good_sm ga) (good_sm gb)) (Ev.now _)
   · simp only [ga, if_true, if_neg gb]
     exact Ev.now _
 · simp only [if_neg ga, Bool.false_eq_true, if_false]
   exact Ev.now _
theorem giLists_ev (a b : List Int) (ha : a.length ≤ 1048576) (hb : b.length ≤ 1048576) : Ev (fun k => spec_giLists.f k a b) (betB a b) := by
 unfold spec_giLists.f betB
 refine Ev.bind (liGood_ev a (by omega)) (Ev.ite (fun ga => ?_) (fun _ => Ev.now _))
 refine Ev.bind (liGood_ev b (by omega)) (Ev.ite (fun gb => ?_) (fun _ => Ev.now _))
 exact Ev.bind (liBelow_ev a b (good_sm ga) (good_sm gb)) (Ev.now _)
theorem betB_iff (a b : List Int) : betB a b = true ↔ goodL a = true ∧ goodL b = true ∧ majB a b = true := by
 unfold betB
 split
 · split <;> simp_all
 · simp_all
theorem unitL_take {p q : List Int} {m : Nat} (h1 : m < p.length) (h2 : m < q.length) : unitL (p.take (m + 1)) (q.take (m + 1)) = unitL (p.take m) (q.take m) + max 0 (rd p (m : Int) - rd q (m : Int)) := by
 unfold unitL
 rw [← List.take_zipWith, ← List.take_zipWith, List.take_succ_eq_append_getElem (by rw [List.length_zipWith]; omega), List.sum_append, List.getElem_zipWith, rdn h1, rdn h2, List.sum_cons, List.sum_nil, Int.add_zero]
theorem sum_nn : ∀ l : List Int, (∀ x ∈ l, 0 ≤ x) → 0 ≤ l.sum
 | [], _ => by simp
 | x :: l, h => by
  rw [List.sum_cons]
  have := sum_nn l (fun y hy => h y (List.mem_cons_of_mem _ hy))
  have := h x List.mem_cons_self
  omega
theorem unitL_nn (p q : List Int) : 0 ≤ unitL p q := by
 unfold unitL
 refine sum_nn _ ?_
 intro x hx
 obtain ⟨i, hi, rfl⟩ := List.mem_iff_getElem.1 hx
 rw [List.getElem_zipWith]
 omega
structure Gv (x t : List Int) (i j : Nat) (a : Int) : Prop extends Nx x t i j where
 pos : 1 ≤ a
 ai : a ≤ rd x (i : Int) - rd t (i : Int)
 aj : a ≤ rd t (j : Int) - rd x (j : Int)
theorem gv_pre {x t : List Int} {i j : Nat} {a : Int} (hl : x.length = t.length) (g : Gv x t i j a) (hp : ∀ m, pre t m ≤ pre x m) : ∀ m : Nat, i < m → m ≤ j → pre t m + a ≤ pre x m
 | 0, h, _ => by omega
 | m + 1, h, h2 => by
  have := g.hj
  rw [pre_succ (by omega), pre_succ (by omega)]
  rcases Nat.lt_or_ge i m with hlt | hge
  · have := gv_pre hl g hp m hlt (by omega)
    have := g.bef m (by omega)
    omega
  · have : m = i := by omega
    subst this
    have := hp m
    have := g.ai
    omega
theorem gv_dom {x t : List Int} {i j : Nat} {a : Int} (hd : Dom x t) (g : Gv x t i j a) : Dom (giveL x (i : Int) (j : Int) a) t := by
 obtain ⟨hl, hs, hp⟩ := hd
 have h1 := g.lt
 have h2 := g.hj
 refine ⟨by rw [giveL_length]; exact hl, by rw [giveL_sum x i j a (by omega) h2 (by omega)]; exact hs, fun m => ?_⟩
 rcases Nat.lt_or_ge x.length m with hm | hm
 · rw [pre_all (by omega), pre_all (by rw [giveL_length]; omega), giveL_sum x i j a (by omega) h2 (by omega)]
   omega
 · rw [giveL_pre x i j a (by omega) h2 (by omega) m hm]
   have := hp m
   by_cases c1 : i < m
   · by_cases c2 : j < m
     · rw [if_pos c1, if_pos c2]; omega
     · rw [if_pos c1, if_neg c2]
       have := gv_pre hl g hp m c1 (by omega)
       omega
   · rw [if_neg c1, if_neg (by omega)]; omega
theorem gv_desc {x t : List Int} {i j : Nat} {a : Int} (hl : x.length = t.length) (hx : Desc x) (ht : Desc t) (g : Gv x t i j a) : Desc (giveL x (i : Int) (j : Int) a) := by
 have h1 := g.lt
 have h2 := g.hj
 have h3 := g.ai
 have h4 := g.aj
 refine desc_of_rd fun k hk => ?_
 rw [giveL_length] at hk
 rw [giveL_rd x i j a (by omega) h2 (by omega), giveL_rd x i j a (by omega) h2 (by omega)]
 have dx := desc_rd hx (a := k) (b := k + 1) (by omega) hk
 have dt := desc_rd ht (a := k) (b := k + 1) (by omega) (by omega)
 have hpos := g.pos
 by_cases c1 : k + 1 = j
 · rw [if_pos c1]
   by_cases c2 : k = i
   · rw [if_neg (by omega), if_pos c2]
     rw [c1, c2] at dt
     omega
   · rw [if_neg (by omega), if_neg c2]
     have := g.bef k (by omega)
     rw [c1] at dt
     omega
 · rw [if_neg c1]
   by_cases c2 : k + 1 = i
   · rw [if_pos c2, if_neg (by omega), if_neg (by omega)]
     rw [c2] at dx
     omega
   · rw [if_neg c2]
     by_cases c3 : k = j
     · rw [if_pos c3]
       rw [c3] at dx
       rw [c3]
       omega
     · rw [if_neg c3]
       by_cases c4 : k = i
       · rw [if_pos c4]
         have hb := g.btw (k + 1) (by omega) (by omega)
         rw [c4] at dt hb
         rw [c4]
         omega
       · rw [if_neg c4]
         exact dx
theorem gv_good {x t : List Int} {i j : Nat} {a : Int} (hl : x.length = t.length) (hx : goodL x = true) (ht : goodL t = true) (g : Gv x t i j a) : goodL (giveL x (i : Int) (j : Int) a) = true := by
 have h1 := g.lt
 have h2 := g.hj
 have h3 := g.ai
 have h4 := g.aj
 have hpos := g.pos
 have b1 := rd_good ht (i := (i : Int)) (by omega) (by omega)
 have b2 := rd_good ht (i := (j : Int)) (by omega) (by omega)
 have b3 := rd_good hx (i := (i : Int)) (by omega) (by omega)
 have b4 := rd_good hx (i := (j : Int)) (by omega) (by omega)
 exact (give_good x (i : Int) (j : Int) _ _ hx (by omega) (by omega) (by omega)).2 (by omega)
theorem gv_unit_m {x t : List Int} {i j : Nat} {a : Int} (hl : x.length = t.length) (g : Gv x t i j a) : ∀ m : Nat, m ≤ x.length → unitL ((giveL x (i : Int) (j : Int) a).take m) (t.take m) = unitL (x.take m) (t.take m) - (if i < m then a else 0)
 | 0, _ => by
  rw [if_neg (by omega)]
  simp [unitL]
 | m + 1, h => by
  have h1 := g.lt
  have h2 := g.hj
  have h3 := g.ai
  have h4 := g.aj
  have hpos := g.pos
  rw [unitL_take (by rw [giveL_length]; omega) (by omega), unitL_take (by omega) (by omega), gv_unit_m hl g m (by omega), giveL_rd x i j a (by omega) h2 (by omega) m]
  by_cases c1 : m = j
  · rw [if_pos c1, if_pos (show i < m by omega), if_pos (show i < m + 1 by omega)]
    rw [c1]
    omega
  · rw [if_neg c1]
    by_cases c2 : m = i
    · rw [if_pos c2, if_neg (show ¬ i < m by omega), if_pos (show i < m + 1 by omega)]
      rw [c2]
      omega
    · rw [if_neg c2]
      have e1 : i < m + 1 ↔ i < m := by omega
      simp only [e1]
      omega
theorem gv_unit {x t : List Int} {i j : Nat} {a : Int} (hl : x.length = t.length) (g : Gv x t i j a) : unitL (giveL x (i : Int) (j : Int) a) t = unitL x t - a := by
 have h := gv_unit_m hl g x.length (Nat.le_refl _)
 have h1 := g.lt
 have h2 := g.hj
 rw [List.take_of_length_le (by rw [giveL_length]; omega), List.take_of_length_le (by omega), List.take_of_length_le (by omega), if_pos (by omega)] at h
 exact h
def gvA (u : Bool) (x t : List Int) (i j : Nat) : Int := if u = true then 1 else min (rd x (i : Int) - rd t (i : Int)) (rd t (j : Int) - rd x (j : Int))
theorem nx_gv {x t : List Int} {i j : Nat} (u : Bool) (h : Nx x t i j) : Gv x t i j (gvA u x t i j) := by
 have h1 := h.igt
 have h2 := h.jlt
 unfold gvA
 refine ⟨h, ?_, ?_, ?_⟩
 all_goals (split <;> omega)
inductive GP (u : Bool) (t : List Int) : List Int → List (Nat × Nat × Int) → Prop
 | nil : GP u t t []
 | cons {x : List Int} {i j : Nat} {L : List (Nat × Nat × Int)} (hne : x ≠ t) (hn : Nx x t i j) (h : GP u t (giveL x (i : Int) (j : Int) (gvA u x t i j)) L) : GP u t x ((i, j, gvA u x t i j) :: L)
theorem gp_exists (u : Bool) {t : List Int} (ht : Desc t) (htg : goodL t = true) : ∀ (n : Nat) (x : List Int), Dom x t → Desc x → goodL x = true → unitL x t ≤ n → ∃ L, GP u t x L ∧ (L.length : Int) ≤ unitL x t
 | n, x, hd, hx, hg, hu => by
  by_cases hne : x = t
  · subst hne
    exact ⟨[], .nil, by simpa using unitL_nn x x⟩
  · obtain ⟨i, j, hn⟩ := nx_exists hd hne
    have g := nx_gv u hn
    have h1 := gv_unit hd.1 g
    have h2 := unitL_nn (giveL x (i : Int) (j : Int) (gvA u x t i j)) t
    have h3 := g.pos
    match n, hu with
    | 0, hu => omega
    | n + 1, hu =>
     obtain ⟨L, hL, hl⟩ := gp_exists u ht htg n (giveL x (i : Int) (j : Int) (gvA u x t i j)) (gv_dom hd g) (gv_desc hd.1 hx ht g) (gv_good hd.1 hg htg g) (by omega)
     exact ⟨_, .cons hne hn hL, by rw [List.length_cons]; omega⟩
theorem unitL_bd {x t : List Int} (hx : goodL x = true) (ht : goodL t = true) (hl : x.length = t.length) : unitL x t ≤ 480 := by
 have h := (goodL_iff x).1 hx
 have h' := (goodL_iff t).1 ht
 have key : ∀ m : Nat, m ≤ x.length → unitL (x.take m) (t.take m) ≤ 60 * m := by
  intro m
  induction m with
  | zero => intro _; simp [unitL]
  | succ m ih =>
   intro hm
   rw [unitL_take (by omega) (by omega)]
   have := ih (by omega)
   have b1 := rd_good hx (i := (m : Int)) (by omega) (by omega)
   have b2 := rd_good ht (i := (m : Int)) (by omega) (by omega)
   omega
 have := key x.length (Nat.le_refl _)
 rw [List.take_of_length_le (Nat.le_refl _), List.take_of_length_le (by omega)] at this
 omega
theorem l1Same_l (xs ys : List Int) (hx : xs.length ≤ 9223372036854775807) (hl : xs.length = ys.length) : ∀ (n i : Nat), i + n = xs.length → Ev (fun k => spec_l1Same.l0 k xs ys (xs.length : Int) (i : Int)) (decide (xs.drop i = ys.drop i))
 | 0, i, h => by
  refine Ev.succ ?_
  simp only [spec_l1Same.l0, if_neg (show ¬ (i : Int) < (xs.length : Int) by omega)]
  rw [List.drop_eq_nil_of_le (by omega), List.drop_eq_nil_of_le (by omega)]
  exact Ev.now _
 | n + 1, i, h => by
  have hi : i < xs.length := by omega
  have hj : i < ys.length := by omega
  refine Ev.succ ?_
  simp only [spec_l1Same.l0, if_pos (show (i : Int) < (xs.length : Int) by omega), if_pos (show (i : Int) < (ys.length : Int) by omega), if_pos (show (0 : Int) ≤ (i : Int) by omega), rdn hi, rdn hj, wsucc hi hx]
  rw [List.drop_eq_getElem_cons hi, List.drop_eq_getElem_cons hj]
  by_cases c : xs[i] = ys[i]
  · simp only [c, if_true, List.cons.injEq, true_and]
    exact l1Same_l xs ys hx hl n (i + 1) (by omega)
  · simp only [c, if_false, List.cons.injEq, false_and, decide_false]
    exact Ev.now _
theorem l1Same_ev (xs ys : List Int) (hx : xs.length ≤ 9223372036854775807) : Ev (fun k => spec_l1Same.f k xs ys) (decide (xs = ys)) := by
 unfold spec_l1Same.f
 by_cases h : xs.length = ys.length
 · simp only [if_pos (show (xs.length : Int) = (ys.length : Int) by omega)]
   exact l1Same_l xs ys hx h xs.length 0 (by omega)
 · simp only [if_neg (show ¬ (xs.length : Int) = (ys.length : Int) by omega)]
   rw [decide_eq_false (fun e => h (by rw [e]))]
   exact Ev.now _
def toG (L : List (Nat × Nat × Int)) : List S39 := L.map fun g => ⟨(g.1 : Int), (g.2.1 : Int), g.2.2⟩
theorem implNext1 {x t : List Int} {i j : Nat} (u : Bool) (acc : List S39) (r : List S39) (hl : x.length = t.length) (hn : x.length ≤ 1000) (h : Nx x t i j) (hr : Ev (fun K => impl_path.l2 K x t u acc (j : Int) (j : Int)) r) : ∀ (d k : Nat), k + d = j → Ev (fun K => impl_path.l1 K x t u acc (k : Int)) r
 | 0, k, e => by
  have hk : k = j := by omega
  have := h.hj
  have := h.jlt
  subst hk
  refine Ev.succ ?_
  simp only [impl_path.l1, if_pos (show (0 : Int) ≤ (k : Int) by omega), if_pos (show (k : Int) < (x.length : Int) by omega), if_pos (show (k : Int) < (t.length : Int) by omega), if_neg (show ¬ rd x (k : Int) ≥ rd t (k : Int) by omega)]
  exact hr
 | d + 1, k, e => by
  have := h.hj
  have := h.bef k (by omega)
  refine Ev.succ ?_
  simp only [impl_path.l1, if_pos (show (0 : Int) ≤ (k : Int) by omega), if_pos (show (k : Int) < (x.length : Int) by omega), if_pos (show (k : Int) < (t.length : Int) by omega), if_pos (show rd x (k : Int) ≥ rd t (k : Int) by omega), wsucc (show k < x.length by omega) (by omega)]
  exact implNext1 u acc r hl hn h hr d (k + 1) (by omega)
theorem implNext2 {x t : List Int} {i j : Nat} (u : Bool) (acc : List S39) (r : List S39) (hl : x.length = t.length) (hn : x.length ≤ 1000) (h : Nx x t i j) (hr : Ev (fun K => impl_path.l2 K x t u acc (j : Int) (i : Int)) r) : ∀ (d k : Nat), i + d = k → k ≤ j → Ev (fun K => impl_path.l2 K x t u acc (j : Int) (k : Int)) r
 | 0, k, e, _ => by
  have hk : k = i := by omega
  subst hk
  exact hr
 | d + 1, k, e, hkj => by
  have := h.hj
  have hle : rd x (k : Int) ≤ rd t (k : Int) := by
   rcases Nat.lt_or_ge k j with c | c
   · exact h.btw k (by omega) c
   · have : k = j := by omega
     subst this
     have := h.jlt
     omega
  refine Ev.succ ?_
  simp only [impl_path.l2, if_pos (show (0 : Int) ≤ (k : Int) by omega), if_pos (show (k : Int) < (x.length : Int) by omega), if_pos (show (k : Int) < (t.length : Int) by omega), if_pos hle, w64 (x := (k : Int) - 1) (by omega) (by omega)]
  have := implNext2 u acc r hl hn h hr d (k - 1) (by omega) (by omega)
  rw [show (((k - 1 : Nat) : Int)) = (k : Int) - 1 by omega] at this
  exact this
theorem specNext1 {x t : List Int} {i j : Nat} (hl : x.length = t.length) (hn : x.length ≤ 1000) (h : Nx x t i j) : ∀ (d k : Nat), k + d = j → Ev (fun K => spec_giNext.l0 K t x (k : Int)) ((i : Int), (j : Int), 1)
 | 0, k, e => by
  have hk : k = j := by omega
  have := h.hj
  have := h.jlt
  have h3 := h.lt
  subst hk
  refine Ev.succ ?_
  simp only [spec_giNext.l0, if_pos (show (0 : Int) ≤ (k : Int) by omega), if_pos (show (k : Int) < (x.length : Int) by omega), if_pos (show (k : Int) < (t.length : Int) by omega), if_neg (show ¬ rd x (k : Int) ≥ rd t (k : Int) by omega), w64 (x := (k : Int) - 1) (by omega) (by omega)]
  have key : ∀ (d m : Nat), i + d = m → m < k → Ev (fun K => spec_giNext.l1 K t x (k : Int) (m : Int)) ((i : Int), (k : Int), 1) := by
   intro d
   induction d with
   | zero =>
    intro m e1 e2
    have hm : m = i := by omega
    subst hm
    have := h.igt
    refine Ev.succ ?_
    simp only [spec_giNext.l1, if_pos (show (0 : Int) ≤ (m : Int) by omega), if_pos (show (m : Int) < (x.length : Int) by omega), if_pos (show (m : Int) < (t.length : Int) by omega), if_neg (show ¬ rd x (m : Int) ≤ rd t (m : Int) by omega)]
    exact Ev.now _
   | succ d ih =>
    intro m e1 e2
    have := h.btw m (by omega) e2
    refine Ev.succ ?_
    simp only [spec_giNext.l1, if_pos (show (0 : Int) ≤ (m : Int) by omega), if_pos (show (m : Int) < (x.length : Int) by omega), if_pos (show (m : Int) < (t.length : Int) by omega), if_pos this, w64 (x := (m : Int) - 1) (by omega) (by omega)]
    have := ih (m - 1) (by omega) (by omega)
    rw [show (((m - 1 : Nat) : Int)) = (m : Int) - 1 by omega] at this
    exact this
  have := key (k - 1 - i) (k - 1) (by omega) (by omega)
  rw [show (((k - 1 : Nat) : Int)) = (k : Int) - 1 by omega] at this
  exact this
 | d + 1, k, e => by
  have := h.hj
  have := h.bef k (by omega)
  refine Ev.succ ?_
  simp only [spec_giNext.l0, if_pos (show (0 : Int) ≤ (k : Int) by omega), if_pos (show (k : Int) < (x.length : Int) by omega), if_pos (show (k : Int) < (t.length : Int) by omega), if_pos (show rd x (k : Int) ≥ rd t (k : Int) by omega), wsucc (show k < x.length by omega) (by omega)]
  exact specNext1 hl hn h d (k + 1) (by omega)
theorem gv_done {x t : List Int} {i j : Nat} {a : Int} (hl : x.length = t.length) (hg : goodL x = true) (htg : goodL t = true) (hx : Desc x) (ht : Desc t) (g : Gv x t i j a) : (x.set (i : Int).toNat (wrap64 (rd x (i : Int) - a))).set (j : Int).toNat (wrap64 (rd x (j : Int) + a)) = giveL x (i : Int) (j : Int) a ∧ descL (giveL x (i : Int) (j : Int) a) = giveL x (i : Int) (j : Int) a := by
 have h1 := g.lt
 have h2 := g.hj
 have h3 := g.ai
 have h4 := g.aj
 have hpos := g.pos
 have b1 := rd_good htg (i := (i : Int)) (by omega) (by omega)
 have b2 := rd_good htg (i := (j : Int)) (by omega) (by omega)
 have b3 := rd_good hg (i := (i : Int)) (by omega) (by omega)
 have b4 := rd_good hg (i := (j : Int)) (by omega) (by omega)
 refine ⟨?_, descL_of_desc (gv_desc hl hx ht g)⟩
 rw [w64 (x := rd x (i : Int) - a) (by omega) (by omega), w64 (x := rd x (j : Int) + a) (by omega) (by omega)]
 rfl
theorem implPath_gp (u : Bool) {t : List Int} (ht : Desc t) (htg : goodL t = true) {x : List Int} {L : List (Nat × Nat × Int)} (h : GP u t x L) : ∀ acc : List S39, Dom x t → Desc x → goodL x = true → acc.length + L.length ≤ 1000000 → Ev (fun k => impl_path.l0 k x t u acc) (acc ++ toG L) := by
 induction h with
 | nil =>
  intro acc hd hx hg hb
  refine Ev.succ ?_
  simp only [impl_path.l0]
  have e := slEqual_ev t t (by have := (goodL_iff t).1 htg; omega)
  rw [zaz rfl] at e
  refine Ev.bind e ?_
  simp only [if_true, toG, zav, List.append_nil]
  exact Ev.now _
 | @cons x i j L hne hn h ih =>
  intro acc hd hx hg hb
  have g := nx_gv u hn
  have hlen := (goodL_iff x).1 hg
  have hl := hd.1
  rw [List.length_cons] at hb
  obtain ⟨e1, e2⟩ := gv_done hl hg htg hx ht g
  have h1 := hn.lt
  have h2 := hn.hj
  have ih' := ih (acc ++ [⟨(i : Int), (j : Int), gvA u x t i j⟩]) (gv_dom hd g) (gv_desc hl hx ht g) (gv_good hl hg htg g) (by rw [List.length_append, List.length_singleton]; omega)
  have hgv := given_eq x (i : Int) (j : Int) (gvA u x t i j) (by omega) (by omega) (by omega) (by omega)
  rw [e1] at hgv
  have hrk := ranking_eq (good_sm (gv_good hl hg htg g))
  rw [e2] at hrk
  refine Ev.succ ?_
  simp only [impl_path.l0]
  have e := slEqual_ev x t (by omega)
  rw [decide_eq_false hne] at e
  refine Ev.bind e ?_
  simp only [Bool.false_eq_true, if_false]
  refine implNext1 u acc _ hl (by omega) hn (implNext2 u acc _ hl (by omega) hn (Ev.succ ?_) (j - i) j (by omega) (Nat.le_refl _)) j 0 (by omega)
  have b1 := rd_good htg (i := (i : Int)) (by omega) (by omega)
  have b2 := rd_good htg (i := (j : Int)) (by omega) (by omega)
  have b3 := rd_good hg (i := (i : Int)) (by omega) (by omega)
  have b4 := rd_good hg (i := (j : Int)) (by omega) (by omega)
  have higt := hn.igt
  simp only [impl_path.l2, if_pos (show (0 : Int) ≤ (i : Int) by omega), if_pos (show (0 : Int) ≤ (j : Int) by omega), if_pos (show (i : Int) < (x.length : Int) by omega), if_pos (show (i : Int) < (t.length : Int) by omega), if_pos (show (j : Int) < (x.length : Int) by omega), if_pos (show (j : Int) < (t.length : Int) by omega), if_neg (show ¬ rd x (i : Int) ≤ rd t (i : Int) by omega), if_pos (show acc.length < 5864062014805 by omega)]
  have er : acc ++ toG ((i, j, gvA u x t i j) :: L) = (acc ++ [⟨(i : Int), (j : Int), gvA u x t i j⟩]) ++ toG L := by simp [toG]
  rw [er]
  cases u with
  | true =>
   have ea : gvA true x t i j = 1 := rfl
   rw [ea] at hgv hrk ih' ⊢
   simp only [if_true, hgv, hrk, Option.bind_some]
   exact ih'
  | false =>
   have ea : mn (wrap64 (rd x (i : Int) - rd t (i : Int))) (wrap64 (rd t (j : Int) - rd x (j : Int))) = gvA false x t i j := by
    rw [w64 (x := rd x (i : Int) - rd t (i : Int)) (by omega) (by omega), w64 (x := rd t (j : Int) - rd x (j : Int)) (by omega) (by omega), mn_eq]
    rfl
   simp only [Bool.false_eq_true, if_false, ea, hgv, hrk, Option.bind_some]
   exact ih'
theorem specPath_gp (u : Bool) {t : List Int} (ht : Desc t) (htg : goodL t = true) {x : List Int} {L : List (Nat × Nat × Int)} (h : GP u t x L) : ∀ acc : List S39, Dom x t → Desc x → goodL x = true → acc.length + L.length ≤ 1000000 → Ev (fun k => spec_giPath.l0 k (!u) t x acc) (acc ++ toG L) := by
 induction h with
 | nil =>
  intro acc hd hx hg hb
  refine Ev.succ ?_
  simp only [spec_giPath.l0]
  have e := l1Same_ev t t (by have := (goodL_iff t).1 htg; omega)
  rw [zaz rfl] at e
  refine Ev.bind e ?_
  simp only [if_true, toG, zav, List.append_nil]
  exact Ev.now _
 | @cons x i j L hne hn h ih =>
  intro acc hd hx hg hb
  have g := nx_gv u hn
  have hlen := (goodL_iff x).1 hg
  have hl := hd.1
  rw [List.length_cons] at hb
  obtain ⟨e1, e2⟩ := gv_done hl hg htg hx ht g
  have h1 := hn.lt
  have h2 := hn.hj
  have ih' := ih (acc ++ [⟨(i : Int), (j : Int), gvA u x t i j⟩]) (gv_dom hd g) (gv_desc hl hx ht g) (gv_good hl hg htg g) (by rw [List.length_append, List.length_singleton]; omega)
  have hgv := giDo_eq x (i : Int) (j : Int) (gvA u x t i j) (by omega) (by omega) (by omega) (by omega)
  rw [e1] at hgv
  have hrk := liRank_ev (giveL x (i : Int) (j : Int) (gvA u x t i j)) (by rw [giveL_length]; omega)
  rw [e2] at hrk
  refine Ev.succ ?_
  simp only [spec_giPath.l0]
  have e := l1Same_ev t x (by omega)
  rw [decide_eq_false (Ne.symm hne)] at e
  refine Ev.bind e ?_
  simp only [Bool.false_eq_true, if_false]
  have en : Ev (fun K => spec_giNext.f K t x) ((i : Int), (j : Int), 1) := specNext1 hl (by omega) hn j 0 (by omega)
  refine Ev.bind en ?_
  have b1 := rd_good htg (i := (i : Int)) (by omega) (by omega)
  have b2 := rd_good htg (i := (j : Int)) (by omega) (by omega)
  have b3 := rd_good hg (i := (i : Int)) (by omega) (by omega)
  have b4 := rd_good hg (i := (j : Int)) (by omega) (by omega)
  simp only [if_pos (show (0 : Int) ≤ (i : Int) by omega), if_pos (show (0 : Int) ≤ (j : Int) by omega), if_pos (show (i : Int) < (x.length : Int) by omega), if_pos (show (i : Int) < (t.length : Int) by omega), if_pos (show (j : Int) < (x.length : Int) by omega), if_pos (show (j : Int) < (t.length : Int) by omega), if_pos (show acc.length < 5864062014805 by omega)]
  have er : acc ++ toG ((i, j, gvA u x t i j) :: L) = (acc ++ [⟨(i : Int), (j : Int), gvA u x t i j⟩]) ++ toG L := by simp [toG]
  rw [er]
  cases u with
  | true =>
   have ea : gvA true x t i j = 1 := rfl
   rw [ea] at hgv hrk ih' ⊢
   simp only [Bool.not_true, Bool.false_eq_true, if_false, hgv, Option.bind_some]
   exact Ev.bind hrk ih'
  | false =>
   have ea : spec_l1Least.f (wrap64 (rd x (i : Int) - rd t (i : Int))) (wrap64 (rd t (j : Int) - rd x (j : Int))) = some (gvA false x t i j) := by
    rw [w64 (x := rd x (i : Int) - rd t (i : Int)) (by omega) (by omega), w64 (x := rd t (j : Int) - rd x (j : Int)) (by omega) (by omega)]
    unfold spec_l1Least.f gvA
    simp only [Bool.false_eq_true, if_false]
    split <;> (congr 1; omega)
   simp only [Bool.not_false, if_true, ea, hgv, Option.bind_some]
   exact Ev.bind hrk ih'
noncomputable def gpL (u : Bool) (x t : List Int) : List (Nat × Nat × Int) := open Classical in if h : ∃ L, GP u t x L ∧ (L.length : Int) ≤ unitL x t then h.choose else []
theorem gpL_spec (u : Bool) {x t : List Int} (hd : Dom x t) (hx : Desc x) (ht : Desc t) (hg : goodL x = true) (htg : goodL t = true) : GP u t x (gpL u x t) ∧ ((gpL u x t).length : Int) ≤ unitL x t := by
 have hu := unitL_nn x t
 have h := gp_exists u ht htg (unitL x t).toNat x hd hx hg (by omega)
 unfold gpL
 rw [dif_pos h]
 exact h.choose_spec
theorem toG_length (L : List (Nat × Nat × Int)) : (toG L).length = L.length := by simp [toG]
noncomputable def pathL (u : Bool) (a b : List Int) : List S39 := toG (gpL u (descL b) (descL a))
theorem pathL_ev (u : Bool) (a b : List Int) (h : betB a b = true) : Ev (fun k => impl_path.f k (descL b) (descL a) u) (pathL u a b) ∧ Ev (fun k => spec_giPath.f k a b (!u)) (pathL u a b) ∧ (pathL u a b).length ≤ 480 := by
 obtain ⟨ga, gb, hm⟩ := (betB_iff a b).1 h
 have hd := (majB_dom a b).1 hm
 have ga' : goodL (descL a) = true := by rw [good_desc]; exact ga
 have gb' : goodL (descL b) = true := by rw [good_desc]; exact gb
 obtain ⟨hG, hlen⟩ := gpL_spec u hd (descL_desc b) (descL_desc a) gb' ga'
 have hbd := unitL_bd gb' ga' hd.1
 refine ⟨?_, ?_, by unfold pathL; rw [toG_length]; omega⟩
 · have := implPath_gp u (descL_desc a) ga' hG [] hd (descL_desc b) gb' (by rw [List.length_nil]; omega)
   rw [List.nil_append] at this
   exact this
 · have := specPath_gp u (descL_desc a) ga' hG [] hd (descL_desc b) gb' (by rw [List.length_nil]; omega)
   rw [List.nil_append] at this
   unfold spec_giPath.f
   exact Ev.bind (liRank_ev a (by have := (good_sm ga).1; omega)) (Ev.bind (liRank_ev b (by have := (good_sm gb).1; omega)) this)
noncomputable def bigR (a b : List Int) : List S39 × Bool := if betB a b = true then (pathL false a b, true) else ([], false)
theorem specBigGifts_ev (a b : List Int) (ha : a.length ≤ 1048576) (hb : b.length ≤ 1048576) : Ev (fun k => spec_BigGifts.f k a b) (bigR a b) := by
 unfold spec_BigGifts.f bigR
 exact Ev.bind (giLists_ev a b ha hb) (Ev.ite (fun h => Ev.bind (pathL_ev false a b h).2.1 (Ev.now _)) (fun _ => Ev.now _))
theorem implBigGifts_ev (a b : List Int) (ha : a.length ≤ 1048576) (hb : b.length ≤ 1048576) : Ev (fun k => impl_BigGifts.f k a b) (bigR a b) := by
 unfold impl_BigGifts.f bigR
 refine Ev.bind (isBetween_ev a b ha hb) (Ev.ite (fun h => ?_) (fun _ => Ev.now _))
 obtain ⟨ga, gb, hm⟩ := (betB_iff a b).1 h
 simp only [ranking_eq (good_sm ga), ranking_eq (good_sm gb), Option.bind_some]
 exact Ev.bind (pathL_ev false a b h).1 (Ev.now _)
theorem bigR_len (a b : List Int) (ha : a.length ≤ 1048576) (hb : b.length ≤ 1048576) : (bigR a b).1.length ≤ 1048576 := by
 unfold bigR
 split
 · next h =>
   have := (pathL_ev false a b h).2.2
   simp only
   omega
 · simp

def spec_l1Cur_gift.f (s0_0 : List Int) (s0_1 : Int) (s0_2 : Int) (l1 : List Int) : Option (Int × Int × Int × Int × Int) := (spec_l1Most.f 1 (l1.length : Int)).bind fun t432 => ((spec_l1Cur_pick.f s0_0 s0_1 s0_2 t432).bind fun bt433 => ((spec_l1Cur_pick.f s0_0 bt433.2.1 bt433.2.2 t432).bind fun bt436 => ((spec_l1Cur_pick.f s0_0 bt436.2.1 bt436.2.2 3).bind fun bt439 => ((spec_l1Cur_pick.f s0_0 bt439.2.1 bt439.2.2 12).bind fun bt443 => (if bt443.1 = 0 then ((spec_l1Cur_among.f s0_0 bt443.2.1 bt443.2.2 (([(-1), 0, 60, 61] : List Int))).bind fun bt449 => (some (bt433.1, bt436.1, bt449.1, bt449.2.1, bt449.2.2))) else (if bt443.1 = 1 then ((spec_l1Cur_among.f s0_0 bt443.2.1 bt443.2.2 (([(-1), t432, bt433.1] : List Int))).bind fun bt455 => (some (bt433.1, bt455.1, wrap64 (1 + bt439.1), bt455.2.1, bt455.2.2))) else (some (bt433.1, bt436.1, wrap64 (1 + bt439.1), bt443.2.1, bt443.2.2))))))))
mutual
def spec_DrawIsGiftPath.j0 : Nat → List Int → List Int → List (S39) → List Int → Int → Int → Option (List Int × List Int × (List (S39)))
 | 0, _, _, _, _, _, _ => none
 | k + 1, x6, x7, x8, x1488000, x1488001, x1488002 => (spec_l1Cur_pick.f x1488000 x1488001 x1488002 8).bind fun bt1503 => (if bt1503.1 = 0 then ((spec_l1Cur_gift.f x1488000 bt1503.2.1 bt1503.2.2 x6).bind fun bt1506 => (if x8.length < 5864062014805 then (some (x6, x7, (x8 ++ [(⟨bt1506.1, bt1506.2.1, bt1506.2.2.1⟩ : S39)]))) else (none))) else (if bt1503.1 = 1 then (if (x8.length : Int) > 0 then ((spec_l1Cur_pick.f x1488000 bt1503.2.1 bt1503.2.2 (x8.length : Int)).bind fun bt1514 => ((spec_l1Cur_gift.f x1488000 bt1514.2.1 bt1514.2.2 x6).bind fun bt1517 => (if 0 ≤ bt1514.1 then (if bt1514.1 < (x8.length : Int) then (some (x6, x7, (x8.set (bt1514.1 : Int).toNat (⟨bt1517.1, bt1517.2.1, bt1517.2.2.1⟩ : S39)))) else (none)) else (none)))) else (some (x6, x7, x8))) else (if bt1503.1 = 2 then ((spec_l1Cur_pick.f x1488000 bt1503.2.1 bt1503.2.2 2).bind fun bt1523 => (if 0 ≤ (wrap64 (240 + bt1523.1)) then (if (wrap64 (240 + bt1523.1) : Int).toNat ≤ 11728124029610 then ((some (List.replicate (wrap64 (240 + bt1523.1) : Int).toNat z39 : List (S39))).bind fun y1526 => (spec_DrawIsGiftPath.l0 k x6 x7 y1526 (y1526.length : Int) 0)) else (none)) else (none))) else (some (x6, x7, x8)))))
def spec_DrawIsGiftPath.l0 : Nat → List Int → List Int → List (S39) → Int → Int → Option (List Int × List Int × (List (S39)))
 | 0, _, _, _, _, _ => none
 | k + 1, x6, x7, x8, x57, x58 => if x58 < x57 then (if 0 ≤ x58 then (if x58 < (x8.length : Int) then (spec_DrawIsGiftPath.l0 k x6 x7 (x8.set (x58 : Int).toNat (⟨0, 1, 1⟩ : S39)) x57 (wrap64 (x58 + 1))) else (none)) else (none)) else (some (x6, x7, x8))
end
mutual
def spec_DrawFollowGifts.j0 : Nat → List Int → List Int → Bool → List Int → Int → Int → Option (List Int × (List (S39)))
 | 0, _, _, _, _, _, _ => none
 | k + 1, x5, x6, x24, x1547000, x1547001, x1547002 => if x24 = true then ((spec_l1Cur_one.f x1547000 x1547001 x1547002 2).bind fun bt1559 => ((spec_giPath.f k x5 x6 bt1559.1).bind fun t1562 => (some (x6, t1562)))) else ((spec_l1Cur_pick.f x1547000 x1547001 x1547002 4).bind fun bt1565 => (spec_DrawFollowGifts.l0 k x6 ([] : List (S39)) bt1565.1 x1547000 bt1565.2.1 bt1565.2.2))
def spec_DrawFollowGifts.l0 : Nat → List Int → List (S39) → Int → List Int → Int → Int → Option (List Int × (List (S39)))
 | 0, _, _, _, _, _, _ => none
 | k + 1, x6, x7, x8, x1547000, x1547001, x1547002 => if x8 > 0 then ((spec_l1Cur_gift.f x1547000 x1547001 x1547002 x6).bind fun bt1568 => (if x7.length < 5864062014805 then (spec_DrawFollowGifts.l0 k x6 (x7 ++ [(⟨bt1568.1, bt1568.2.1, bt1568.2.2.1⟩ : S39)]) (wrap64 (x8 - 1)) x1547000 bt1568.2.2.2.1 bt1568.2.2.2.2) else (none))) else (some (x6, x7))
end
theorem tmod_bd (x n : Int) (h0 : 0 ≤ x) (hn : 0 < n) : 0 ≤ Int.tmod x n ∧ Int.tmod x n < n := by
 rw [Int.tmod_eq_emod_of_nonneg h0]
 exact ⟨Int.emod_nonneg _ (by omega), Int.emod_lt_of_pos _ hn⟩
theorem and255 (z : Int) : 0 ≤ Go.bits .and .u64 (IntKind.u64.wrap z / 1099511627776) 255 ∧ Go.bits .and .u64 (IntKind.u64.wrap z / 1099511627776) 255 ≤ 255 := by
 have e := IntKind.wrap_u64 z
 have h := bits_mask .u64 64 (by decide) wraps_u64 8 (by decide) (IntKind.u64.wrap z / 1099511627776) (by omega) (by omega)
 have h' : Go.bits .and .u64 (IntKind.u64.wrap z / 1099511627776) 255 = IntKind.u64.wrap z / 1099511627776 % 256 := by simpa using h
 rw [h']
 omega
def Bytes (l : List Int) : Prop := l.length ≤ 1048576 ∧ ∀ x ∈ l, 0 ≤ x ∧ x ≤ 255
theorem next_ev (l : List Int) (hl : Bytes l) (a s : Int) (h0 : 0 ≤ a) (h1 : a ≤ 1000000000) : ∃ x s', spec_l1Cur_next.f l a s = some (x, a + 1, s') ∧ 0 ≤ x ∧ x ≤ 255 := by
 have hb := hl.1
 unfold spec_l1Cur_next.f
 rw [w64 (x := a + 1) (by omega) (by omega)]
 by_cases c : a < (l.length : Int)
 · simp only [if_pos c, if_pos h0]
   have hx := hl.2 _ (rd_mem h0 c)
   by_cases c2 : a + 1 ≤ (l.length : Int)
   · simp only [if_pos c2]
     refine ⟨_, _, rfl, ?_⟩
     rw [w64 (by omega) (by omega)]
     exact hx
   · omega
 · simp only [if_neg c]
   by_cases c2 : a + 1 ≤ (l.length : Int)
   · omega
   · simp only [if_neg c2]
     refine ⟨_, _, rfl, ?_⟩
     have := and255 (IntKind.u64.wrap (IntKind.u64.wrap (s * 6364136223846793005) + 0) + 1442695040888963407)
     rw [w64 (by omega) (by omega)]
     exact this
theorem pick_ev (l : List Int) (hl : Bytes l) (a s n : Int) (h0 : 0 ≤ a) (h1 : a ≤ 900000000) : ∃ x a' s', spec_l1Cur_pick.f l a s n = some (x, a', s') ∧ 0 ≤ x ∧ (x = 0 ∨ x < n) ∧ a ≤ a' ∧ a' ≤ a + 2 := by
 unfold spec_l1Cur_pick.f
 by_cases c : n ≤ 1
 · simp only [if_pos c]
   exact ⟨_, _, _, rfl, by omega, by omega, by omega, by omega⟩
 · simp only [if_neg c]
   obtain ⟨x, s1, e1, b1, b2⟩ := next_ev l hl a s h0 (by omega)
   simp only [e1, Option.bind_some]
   by_cases c2 : n > 200
   · simp only [if_pos c2]
     obtain ⟨y, s2, e2, b3, b4⟩ := next_ev l hl (a + 1) s1 (by omega) (by omega)
     simp only [e2, Option.bind_some, if_neg (show ¬ n = 0 by omega)]
     have t := tmod_bd (x * 256 + y) n (by omega) (by omega)
     refine ⟨_, _, _, rfl, ?_⟩
     rw [w64 (x := x * 256) (by omega) (by omega), w64 (x := x * 256 + y) (by omega) (by omega)]
     omega
   · simp only [if_neg c2, if_neg (show ¬ n = 0 by omega)]
     have t := tmod_bd x n (by omega) (by omega)
     exact ⟨_, _, _, rfl, by omega, by omega, by omega, by omega⟩
theorem one_ev (l : List Int) (hl : Bytes l) (a s n : Int) (h0 : 0 ≤ a) (h1 : a ≤ 900000000) : ∃ x a' s', spec_l1Cur_one.f l a s n = some (x, a', s') ∧ a ≤ a' ∧ a' ≤ a + 2 := by
 unfold spec_l1Cur_one.f
 obtain ⟨x, a', s', e, _, _, b1, b2⟩ := pick_ev l hl a s n h0 h1
 simp only [e, Option.bind_some]
 exact ⟨_, _, _, rfl, b1, b2⟩
theorem among_ev (l : List Int) (hl : Bytes l) (a s : Int) (L : List Int) (hL : 0 < L.length) (h0 : 0 ≤ a) (h1 : a ≤ 900000000) : ∃ x a' s', spec_l1Cur_among.f l a s L = some (x, a', s') ∧ x ∈ L ∧ a ≤ a' ∧ a' ≤ a + 2 := by
 unfold spec_l1Cur_among.f
 obtain ⟨x, a', s', e, b0, b, b1, b2⟩ := pick_ev l hl a s (L.length : Int) h0 h1
 simp only [e, Option.bind_some, if_pos b0, if_pos (show x < (L.length : Int) by omega)]
 exact ⟨_, _, _, rfl, rd_mem b0 (by omega), b1, b2⟩
structure Bd (n m : Int) (l : List Int) : Prop where
 len : (l.length : Int) ≤ n
 low : ∀ x ∈ l, -1 ≤ x
 high : ∀ x ∈ l, x ≤ m
theorem Bd.le {n m n' m' : Int} {l : List Int} (h : Bd n m l) (h1 : n ≤ n') (h2 : m ≤ m') : Bd n' m' l := ⟨by have := h.len; omega, h.low, fun x hx => by have := h.high x hx; omega⟩
theorem Bd.snoc {n m : Int} {l : List Int} (h : Bd n m l) {x : Int} (h1 : -1 ≤ x) (h2 : x ≤ m) : Bd (n + 1) m (l ++ [x]) := by
 refine ⟨by have := h.len; rw [List.length_append]; simp; omega, fun y hy => ?_, fun y hy => ?_⟩
 · rcases List.mem_append.1 hy with hy | hy
   · exact h.low y hy
   · have : y = x := by simpa using hy
     omega
 · rcases List.mem_append.1 hy with hy | hy
   · exact h.high y hy
   · have : y = x := by simpa using hy
     omega
theorem Bd.nil (n m : Int) (h : 0 ≤ n) : Bd n m [] := ⟨by simpa using h, fun x hx => by simp at hx, fun x hx => by simp at hx⟩
theorem list_l (l : List Int) (hl : Bytes l) (m : Int) (hm : 0 ≤ m) (hm2 : m ≤ 1000) : ∀ (d : Nat) (acc : List Int) (a s : Int), (d : Int) ≤ 10 → acc.length ≤ 10 → 0 ≤ a → a ≤ 800000000 + 10 * (10 - (d : Int)) → Bd (10 - (d : Int)) m acc → ∃ r a' s', Ev (fun k => spec_l1Cur_list.l0 k m acc (d : Int) l a s) (r, a', s') ∧ Bd 10 m r ∧ a ≤ a' ∧ a' ≤ a + 2 * (d : Int)
 | 0, acc, a, s, hd, hc, h0, h1, hb => by
  refine ⟨acc, a, s, Ev.succ ?_, hb.le (by omega) (by omega), by omega, by omega⟩
  simp only [spec_l1Cur_list.l0, if_neg (show ¬ ((0 : Nat) : Int) > 0 by omega)]
  exact Ev.now _
 | d + 1, acc, a, s, hd, hc, h0, h1, hb => by
  obtain ⟨x, a1, s1, e, b0, b, b1, b2⟩ := pick_ev l hl a s (m + 1) h0 (by omega)
  have hl1 := hb.len
  obtain ⟨r, a', s', h, hr, q1, q2⟩ := list_l l hl m hm hm2 d (acc ++ [x]) a1 s1 (by omega) (by rw [List.length_append]; simp; omega) (by omega) (by omega) ((hb.snoc (by omega) (by omega)).le (by omega) (by omega))
  refine ⟨r, a', s', Ev.succ ?_, hr, by omega, by omega⟩
  simp only [spec_l1Cur_list.l0, if_pos (show ((d + 1 : Nat) : Int) > 0 by omega), w64 (x := m + 1) (by omega) (by omega), e, Option.bind_some, if_pos (show acc.length < 17592186044416 by omega), w64 (x := ((d + 1 : Nat) : Int) - 1) (by omega) (by omega)]
  rw [show ((d + 1 : Nat) : Int) - 1 = (d : Int) by omega]
  exact h
theorem list_ev (l : List Int) (hl : Bytes l) (m : Int) (hm : 0 ≤ m) (hm2 : m ≤ 1000) (a s : Int) (h0 : 0 ≤ a) (h1 : a ≤ 700000000) : ∃ r a' s', Ev (fun k => spec_l1Cur_list.f k l a s m) (r, a', s') ∧ Bd 10 m r ∧ a ≤ a' ∧ a' ≤ a + 100 := by
 obtain ⟨x, a1, s1, e, b0, b, b1, b2⟩ := pick_ev l hl a s 6 h0 (by omega)
 obtain ⟨d, hd⟩ := Int.eq_ofNat_of_zero_le (show 0 ≤ 1 + x by omega)
 have hd' : 1 + x = (d : Int) := hd
 obtain ⟨r, a', s', h, hr, q1, q2⟩ := list_l l hl m hm hm2 d [] a1 s1 (by omega) (by simp) (by omega) (by omega) (Bd.nil _ _ (by omega))
 refine ⟨r, a', s', ?_, hr, by omega, by omega⟩
 unfold spec_l1Cur_list.f
 simp only [e, Option.bind_some, w64 (x := 1 + x) (by omega) (by omega)]
 rw [hd']
 exact h
theorem any_l (l : List Int) (hl : Bytes l) (m : Int) (hm : 9 ≤ m) (hm2 : m ≤ 1000) : ∀ (d : Nat) (acc : List Int) (a s : Int), d ≤ 12 → acc.length + d = 12 → 0 ≤ a → a ≤ 800000000 + 10 * (acc.length : Int) → Bd 12 m acc → ∃ r a' s', Ev (fun k => spec_l1Cur_anyList.l0 k acc l a s) (r, a', s') ∧ Bd 12 m r ∧ a ≤ a' ∧ a' ≤ a + 2 + 4 * (d : Int)
 | 0, acc, a, s, hd, hc, h0, h1, hb => by
  obtain ⟨x, a1, s1, e, b0, b, b1, b2⟩ := pick_ev l hl a s 2 h0 (by omega)
  refine ⟨acc, a1, s1, Ev.succ ?_, hb, by omega, by omega⟩
  simp only [spec_l1Cur_anyList.l0, e, Option.bind_some, w64 (x := 8 + x) (by omega) (by omega), if_neg (show ¬ (acc.length : Int) < 8 + x by omega)]
  exact Ev.now _
 | d + 1, acc, a, s, hd, hc, h0, h1, hb => by
  obtain ⟨x, a1, s1, e, b0, b, b1, b2⟩ := pick_ev l hl a s 2 h0 (by omega)
  by_cases c : (acc.length : Int) < 8 + x
  · obtain ⟨y, a2, s2, e2, c0, c3, c1, c2⟩ := pick_ev l hl a1 s1 9 (by omega) (by omega)
    have hbb : Bd 12 m (acc ++ [y]) := by
     refine ⟨by rw [List.length_append]; simp; omega, fun z hz => ?_, fun z hz => ?_⟩
     · rcases List.mem_append.1 hz with hz | hz
       · exact hb.low z hz
       · have : z = y := by simpa using hz
         omega
     · rcases List.mem_append.1 hz with hz | hz
       · exact hb.high z hz
       · have : z = y := by simpa using hz
         omega
    obtain ⟨r, a', s', h, hr, q1, q2⟩ := any_l l hl m hm hm2 d (acc ++ [y]) a2 s2 (by omega) (by rw [List.length_append]; simp; omega) (by omega) (by rw [List.length_append]; simp; omega) hbb
    refine ⟨r, a', s', Ev.succ ?_, hr, by omega, by omega⟩
    simp only [spec_l1Cur_anyList.l0, e, Option.bind_some, w64 (x := 8 + x) (by omega) (by omega), if_pos c, e2, if_pos (show acc.length < 17592186044416 by omega)]
    exact h
  · refine ⟨acc, a1, s1, Ev.succ ?_, hb, by omega, by omega⟩
    simp only [spec_l1Cur_anyList.l0, e, Option.bind_some, w64 (x := 8 + x) (by omega) (by omega), if_neg c]
    exact Ev.now _
theorem anyList_ev (l : List Int) (hl : Bytes l) (m : Int) (hm : 0 ≤ m) (hm2 : m ≤ 1000) (a s : Int) (h0 : 0 ≤ a) (h1 : a ≤ 600000000) : ∃ r a' s', Ev (fun k => spec_l1Cur_anyList.f k l a s m) (r, a', s') ∧ Bd 12 (max m 61) r ∧ a ≤ a' ∧ a' ≤ a + 200 := by
 obtain ⟨L, a1, s1, e1, hL, b1, b2⟩ := list_ev l hl m hm hm2 a s h0 (by omega)
 obtain ⟨x, a2, s2, e2, c0, c3, c1, c2⟩ := pick_ev l hl a1 s1 14 (by omega) (by omega)
 have hlen := hL.len
 have hL' : Bd 12 (max m 61) L := hL.le (by omega) (by omega)
 by_cases t0 : x = 0
 · obtain ⟨y, a3, s3, e3, hy, d1, d2⟩ := among_ev l hl a2 s2 [-1, 0, 60, 61] (by simp) (by omega) (by omega)
   have hy' : -1 ≤ y ∧ y ≤ 61 := by
    simp at hy
    omega
   refine ⟨L ++ [y], a3, s3, ?_, (Bd.snoc (hL.le (n' := 10) (m' := max m 61) (by omega) (by omega)) hy'.1 (by omega)).le (by omega) (by omega), by omega, by omega⟩
   unfold spec_l1Cur_anyList.f
   refine Ev.bind e1 ?_
   simp only [e2, Option.bind_some, if_pos t0, e3, if_pos (show L.length < 17592186044416 by omega)]
   exact Ev.now _
 · by_cases t1 : x = 1
   · obtain ⟨r, a3, s3, e3, hr, d1, d2⟩ := any_l l hl (max m 61) (by omega) (by omega) (12 - L.length) L a2 s2 (by omega) (by omega) (by omega) (by omega) hL'
     refine ⟨r, a3, s3, ?_, hr, by omega, by omega⟩
     unfold spec_l1Cur_anyList.f
     refine Ev.bind e1 ?_
     simp only [e2, Option.bind_some, if_neg t0, if_pos t1]
     exact e3
   · by_cases t2 : x = 2
     · refine ⟨[], a2, s2, ?_, Bd.nil _ _ (by omega), by omega, by omega⟩
       unfold spec_l1Cur_anyList.f
       refine Ev.bind e1 ?_
       simp only [e2, Option.bind_some, if_neg t0, if_neg t1, if_pos t2]
       exact Ev.now _
     · refine ⟨L, a2, s2, ?_, hL', by omega, by omega⟩
       unfold spec_l1Cur_anyList.f
       refine Ev.bind e1 ?_
       simp only [e2, Option.bind_some, if_neg t0, if_neg t1, if_neg t2]
       exact Ev.now _



theorem Bd.set {n m : Int} {l : List Int} (h : Bd n m l) (i : Nat) {x : Int} (h1 : -1 ≤ x) (h2 : x ≤ m) : Bd n m (l.set i x) := by
 refine ⟨by rw [List.length_set]; exact h.len, fun y hy => ?_, fun y hy => ?_⟩
 · rcases List.mem_or_eq_of_mem_set hy with hy | rfl
   · exact h.low y hy
   · exact h1
 · rcases List.mem_or_eq_of_mem_set hy with hy | rfl
   · exact h.high y hy
   · exact h2
theorem fit_end (l : List Int) (hl : Bytes l) (b acc : List Int) (n : Int) (hb : Bd 12 100 b) (hx : Bd 12 100 acc) (a s : Int) (h0 : 0 ≤ a) (h1 : a ≤ 800000000) : ∃ x y a' s', Ev (fun k => spec_l1Cur_fitting.j1 k b acc n false l a s) (x, y, a', s') ∧ Bd 12 100 x ∧ Bd 12 100 y ∧ a ≤ a' ∧ a' ≤ a + 10 := by
 obtain ⟨t, a1, s1, e, b1, b2⟩ := one_ev l hl a s 5 h0 (by omega)
 cases t with
 | true =>
  refine ⟨b, acc, a1, s1, Ev.succ ?_, hb, hx, by omega, by omega⟩
  simp only [spec_l1Cur_fitting.j1, Bool.false_eq_true, if_false, e, Option.bind_some, if_true]
  exact Ev.now _
 | false =>
  refine ⟨acc, b, a1, s1, Ev.succ ?_, hx, hb, by omega, by omega⟩
  simp only [spec_l1Cur_fitting.j1, Bool.false_eq_true, if_false, e, Option.bind_some]
  exact Ev.now _
theorem fit_l (l : List Int) (hl : Bytes l) (b : List Int) (hb : Bd 12 100 b) : ∀ (d : Nat) (acc : List Int) (a s : Int), (d : Int) ≤ 12 → 0 ≤ a → a ≤ 700000000 - 100 * (d : Int) → Bd 12 (80 - (d : Int)) acc → ∃ x y a' s', Ev (fun k => spec_l1Cur_fitting.l0 k b acc (d : Int) l a s) (x, y, a', s') ∧ Bd 12 100 x ∧ Bd 12 100 y ∧ a ≤ a' ∧ a' ≤ a + 10 + 30 * (d : Int) := by
 intro d
 induction d with
 | zero =>
  intro acc a s hd h0 h1 hacc
  obtain ⟨x, y, a', s', e, q1, q2, q3, q4⟩ := fit_end l hl b acc ((0 : Nat) : Int) hb (hacc.le (by omega) (by omega)) a s h0 (by omega)
  refine ⟨x, y, a', s', Ev.succ ?_, q1, q2, q3, by omega⟩
  simp only [spec_l1Cur_fitting.l0, if_neg (show ¬ ((0 : Nat) : Int) > 0 by omega)]
  exact e
 | succ d ih =>
  intro acc a s hd h0 h1 hacc
  have hlen := hacc.len
  have hbig : Bd 12 100 acc := hacc.le (by omega) (by omega)
  by_cases c : (acc.length : Int) > 1
  · obtain ⟨i, a1, s1, e1, p0, p, p1, p2⟩ := pick_ev l hl a s (acc.length : Int) h0 (by omega)
    obtain ⟨j, a2, s2, e2, r0, r, r1, r2⟩ := pick_ev l hl a1 s1 (acc.length : Int) (by omega) (by omega)
    have hi : i < (acc.length : Int) := by omega
    have hj : j < (acc.length : Int) := by omega
    have b1 := hacc.high _ (rd_mem p0 hi)
    have b2 := hacc.low _ (rd_mem p0 hi)
    have keep : ∀ (a3 s3 : Int), a2 ≤ a3 → a3 ≤ a2 + 2 → ∃ x y a' s', Ev (fun k => spec_l1Cur_fitting.l0 k b acc (wrap64 (((d + 1 : Nat) : Int) - 1)) l a3 s3) (x, y, a', s') ∧ Bd 12 100 x ∧ Bd 12 100 y ∧ a3 ≤ a' ∧ a' ≤ a3 + 10 + 30 * (d : Int) := fun a3 s3 g1 g2 => by
     rw [w64 (by omega) (by omega), show ((d + 1 : Nat) : Int) - 1 = (d : Int) by omega]
     exact ih acc a3 s3 (by omega) (by omega) (by omega) (hacc.le (by omega) (by omega))
    have move : rd acc i > 0 → ∀ (a3 s3 : Int), a2 ≤ a3 → a3 ≤ a2 + 2 → ∃ x y a' s', Ev (fun k => spec_l1Cur_fitting.l0 k b ((acc.set i.toNat (wrap64 (rd acc i - 1))).set j.toNat (wrap64 (rd (acc.set i.toNat (wrap64 (rd acc i - 1))) j + 1))) (wrap64 (((d + 1 : Nat) : Int) - 1)) l a3 s3) (x, y, a', s') ∧ Bd 12 100 x ∧ Bd 12 100 y ∧ a3 ≤ a' ∧ a' ≤ a3 + 10 + 30 * (d : Int) := fun hp a3 s3 g1 g2 => by
     rw [w64 (x := ((d + 1 : Nat) : Int) - 1) (by omega) (by omega), show ((d + 1 : Nat) : Int) - 1 = (d : Int) by omega, w64 (x := rd acc i - 1) (by omega) (by omega)]
     have h1 : Bd 12 (80 - ((d + 1 : Nat) : Int)) (acc.set i.toNat (rd acc i - 1)) := hacc.set _ (by omega) (by omega)
     have c1 := h1.high _ (rd_mem (l := acc.set i.toNat (rd acc i - 1)) r0 (by rw [List.length_set]; exact hj))
     have c2 := h1.low _ (rd_mem (l := acc.set i.toNat (rd acc i - 1)) r0 (by rw [List.length_set]; exact hj))
     rw [w64 (x := rd (acc.set i.toNat (rd acc i - 1)) j + 1) (by omega) (by omega)]
     exact ih _ a3 s3 (by omega) (by omega) (by omega) ((h1.le (n' := 12) (m' := 80 - (d : Int)) (by omega) (by omega)).set _ (by omega) (by omega))
    have body : ∃ x y a' s', Ev (fun k => spec_l1Cur_fitting.j1 k b acc ((d + 1 : Nat) : Int) true l a s) (x, y, a', s') ∧ Bd 12 100 x ∧ Bd 12 100 y ∧ a ≤ a' ∧ a' ≤ a + 20 + 30 * (d : Int) := by
     by_cases t1 : rd acc i > 0
     · by_cases t2 : rd acc i > rd acc j
       · obtain ⟨x, y, a', s', h, q1, q2, q3, q4⟩ := move t1 a2 s2 (by omega) (by omega)
         refine ⟨x, y, a', s', Ev.succ ?_, q1, q2, by omega, by omega⟩
         simp only [spec_l1Cur_fitting.j1, if_true, e1, e2, Option.bind_some, if_pos p0, if_pos hi, if_pos t1, if_pos r0, if_pos hj, if_pos t2]
         exact h
       · obtain ⟨t, a3, s3, e3, f1, f2⟩ := one_ev l hl a2 s2 4 (by omega) (by omega)
         cases t with
         | true =>
          obtain ⟨x, y, a', s', h, q1, q2, q3, q4⟩ := move t1 a3 s3 (by omega) (by omega)
          refine ⟨x, y, a', s', Ev.succ ?_, q1, q2, by omega, by omega⟩
          simp only [spec_l1Cur_fitting.j1, if_true, e1, e2, e3, Option.bind_some, if_pos p0, if_pos hi, if_pos t1, if_pos r0, if_pos hj, if_neg t2]
          exact h
         | false =>
          obtain ⟨x, y, a', s', h, q1, q2, q3, q4⟩ := keep a3 s3 (by omega) (by omega)
          refine ⟨x, y, a', s', Ev.succ ?_, q1, q2, by omega, by omega⟩
          simp only [spec_l1Cur_fitting.j1, if_true, e1, e2, e3, Option.bind_some, if_pos p0, if_pos hi, if_pos t1, if_pos r0, if_pos hj, if_neg t2, Bool.false_eq_true, if_false]
          exact h
     · obtain ⟨x, y, a', s', h, q1, q2, q3, q4⟩ := keep a2 s2 (by omega) (by omega)
       refine ⟨x, y, a', s', Ev.succ ?_, q1, q2, by omega, by omega⟩
       simp only [spec_l1Cur_fitting.j1, if_true, e1, e2, Option.bind_some, if_pos p0, if_pos hi, if_neg t1]
       exact h
    obtain ⟨x, y, a', s', h, q1, q2, q3, q4⟩ := body
    refine ⟨x, y, a', s', Ev.succ ?_, q1, q2, by omega, by omega⟩
    simp only [spec_l1Cur_fitting.l0, if_pos (show ((d + 1 : Nat) : Int) > 0 by omega), zaz c]
    exact h
  · obtain ⟨x, y, a', s', e, q1, q2, q3, q4⟩ := fit_end l hl b acc ((d + 1 : Nat) : Int) hb hbig a s h0 (by omega)
    refine ⟨x, y, a', s', Ev.succ ?_, q1, q2, q3, by omega⟩
    simp only [spec_l1Cur_fitting.l0, if_pos (show ((d + 1 : Nat) : Int) > 0 by omega), decide_eq_false c]
    exact e
theorem fitting_ev (l : List Int) (hl : Bytes l) (m : Int) (hm : 0 ≤ m) (hm2 : m ≤ 61) (a s : Int) (h0 : 0 ≤ a) (h1 : a ≤ 500000000) : ∃ x y a' s', Ev (fun k => spec_l1Cur_fitting.f k l a s m) (x, y, a', s') ∧ Bd 12 100 x ∧ Bd 12 100 y ∧ a ≤ a' ∧ a' ≤ a + 1000 := by
 obtain ⟨b, a1, s1, e1, hb, b1, b2⟩ := anyList_ev l hl m hm (by omega) a s h0 (by omega)
 obtain ⟨t, a2, s2, e2, c1, c2⟩ := one_ev l hl a1 s1 5 (by omega) (by omega)
 have hb' : Bd 12 100 b := hb.le (by omega) (by omega)
 cases t with
 | true =>
  obtain ⟨q, a3, s3, e3, hq, d1, d2⟩ := anyList_ev l hl m hm (by omega) a2 s2 (by omega) (by omega)
  refine ⟨q, b, a3, s3, ?_, hq.le (by omega) (by omega), hb', by omega, by omega⟩
  unfold spec_l1Cur_fitting.f
  refine Ev.bind e1 ?_
  simp only [e2, Option.bind_some, if_true]
  exact Ev.bind e3 (Ev.now _)
 | false =>
  obtain ⟨n, a3, s3, e3, n0, n1, d1, d2⟩ := pick_ev l hl a2 s2 12 (by omega) (by omega)
  obtain ⟨d, hd⟩ := Int.eq_ofNat_of_zero_le n0
  have hd' : n = (d : Int) := hd
  have hlen := hb.len
  obtain ⟨x, y, a', s', h, q1, q2, q3, q4⟩ := fit_l l hl b hb' d b a3 s3 (by omega) (by omega) (by omega) (hb.le (by omega) (by omega))
  refine ⟨x, y, a', s', ?_, q1, q2, by omega, by omega⟩
  unfold spec_l1Cur_fitting.f
  refine Ev.bind e1 ?_
  simp only [e2, Option.bind_some, Bool.false_eq_true, if_false, l1Own_eq b (by omega), e3]
  rw [hd']
  exact h





theorem maj_l (l : List Int) (hl : Bytes l) (b : List Int) (hb : Bd 12 100 b) : ∀ (d : Nat) (acc : List Int) (a s : Int), (d : Int) ≤ 12 → 0 ≤ a → a ≤ 700000000 - 100 * (d : Int) → Bd 12 100 acc → ∃ x y a' s', Ev (fun k => spec_l1Cur_majorized.l0 k b acc (d : Int) l a s) (x, y, a', s') ∧ Bd 12 100 x ∧ Bd 12 100 y ∧ a ≤ a' ∧ a' ≤ a + 10 + 30 * (d : Int) := by
 intro d
 have fin : ∀ (acc : List Int) (n a s : Int), Bd 12 100 acc → ∃ x y a' s', Ev (fun k => spec_l1Cur_majorized.j1 k b acc n false l a s) (x, y, a', s') ∧ Bd 12 100 x ∧ Bd 12 100 y ∧ a ≤ a' ∧ a' ≤ a := fun acc n a s h => by
  refine ⟨acc, b, a, s, Ev.succ ?_, h, hb, by omega, by omega⟩
  simp only [spec_l1Cur_majorized.j1, Bool.false_eq_true, if_false]
  exact Ev.now _
 induction d with
 | zero =>
  intro acc a s hd h0 h1 hacc
  obtain ⟨x, y, a', s', e, q1, q2, q3, q4⟩ := fin acc ((0 : Nat) : Int) a s hacc
  refine ⟨x, y, a', s', Ev.succ ?_, q1, q2, q3, by omega⟩
  simp only [spec_l1Cur_majorized.l0, if_neg (show ¬ ((0 : Nat) : Int) > 0 by omega)]
  exact e
 | succ d ih =>
  intro acc a s hd h0 h1 hacc
  by_cases c : (acc.length : Int) > 1
  · obtain ⟨i, a1, s1, e1, p0, p, p1, p2⟩ := pick_ev l hl a s (acc.length : Int) h0 (by omega)
    obtain ⟨j, a2, s2, e2, r0, r, r1, r2⟩ := pick_ev l hl a1 s1 (acc.length : Int) (by omega) (by omega)
    have hi : i < (acc.length : Int) := by omega
    have hj : j < (acc.length : Int) := by omega
    have b1 := hacc.high _ (rd_mem p0 hi)
    have b2 := hacc.low _ (rd_mem p0 hi)
    have b3 := hacc.high _ (rd_mem r0 hj)
    have b4 := hacc.low _ (rd_mem r0 hj)
    have ed : wrap64 (((d + 1 : Nat) : Int) - 1) = (d : Int) := by rw [w64 (by omega) (by omega)]; omega
    by_cases t : rd acc i ≥ rd acc j + 2
    · have h1' : Bd 12 100 (acc.set i.toNat (rd acc i - 1)) := hacc.set _ (by omega) (by omega)
      have hne : i ≠ j := fun e => by rw [e] at t; omega
      have er : rd (acc.set i.toNat (rd acc i - 1)) j = rd acc j := rd_set_ne _ p0 r0 hne
      have h2' : Bd 12 100 ((acc.set i.toNat (rd acc i - 1)).set j.toNat (rd acc j + 1)) := h1'.set _ (by omega) (by omega)
      obtain ⟨x, y, a', s', e, q1, q2, q3, q4⟩ := ih _ a2 s2 (by omega) (by omega) (by omega) h2'
      refine ⟨x, y, a', s', Ev.succ ?_, q1, q2, by omega, by omega⟩
      simp only [spec_l1Cur_majorized.l0, if_pos (show ((d + 1 : Nat) : Int) > 0 by omega), zaz c]
      refine Ev.succ ?_
      simp only [spec_l1Cur_majorized.j1, if_true, e1, e2, Option.bind_some, if_pos p0, if_pos hi, if_pos r0, if_pos hj, w64 (x := rd acc j + 2) (by omega) (by omega), if_pos t, w64 (x := rd acc i - 1) (by omega) (by omega), er, w64 (x := rd acc j + 1) (by omega) (by omega), ed]
      exact e
    · obtain ⟨x, y, a', s', e, q1, q2, q3, q4⟩ := ih acc a2 s2 (by omega) (by omega) (by omega) hacc
      refine ⟨x, y, a', s', Ev.succ ?_, q1, q2, by omega, by omega⟩
      simp only [spec_l1Cur_majorized.l0, if_pos (show ((d + 1 : Nat) : Int) > 0 by omega), zaz c]
      refine Ev.succ ?_
      simp only [spec_l1Cur_majorized.j1, if_true, e1, e2, Option.bind_some, if_pos p0, if_pos hi, if_pos r0, if_pos hj, w64 (x := rd acc j + 2) (by omega) (by omega), if_neg t, ed]
      exact e
  · obtain ⟨x, y, a', s', e, q1, q2, q3, q4⟩ := fin acc ((d + 1 : Nat) : Int) a s hacc
    refine ⟨x, y, a', s', Ev.succ ?_, q1, q2, q3, by omega⟩
    simp only [spec_l1Cur_majorized.l0, if_pos (show ((d + 1 : Nat) : Int) > 0 by omega), decide_eq_false c]
    exact e
theorem majorized_ev (l : List Int) (hl : Bytes l) (m : Int) (hm : 0 ≤ m) (hm2 : m ≤ 61) (a s : Int) (h0 : 0 ≤ a) (h1 : a ≤ 400000000) : ∃ x y a' s', Ev (fun k => spec_l1Cur_majorized.f k l a s m) (x, y, a', s') ∧ Bd 12 100 x ∧ Bd 12 100 y ∧ a ≤ a' ∧ a' ≤ a + 2000 := by
 obtain ⟨b, a1, s1, e1, hb, b1, b2⟩ := list_ev l hl m hm (by omega) a s h0 (by omega)
 obtain ⟨t, a2, s2, e2, c1, c2⟩ := one_ev l hl a1 s1 8 (by omega) (by omega)
 have hb' : Bd 12 100 b := hb.le (by omega) (by omega)
 cases t with
 | true =>
  obtain ⟨x, y, a3, s3, e3, hx, hy, d1, d2⟩ := fitting_ev l hl m hm hm2 a2 s2 (by omega) (by omega)
  refine ⟨x, y, a3, s3, ?_, hx, hy, by omega, by omega⟩
  unfold spec_l1Cur_majorized.f
  refine Ev.bind e1 ?_
  simp only [e2, Option.bind_some, if_true]
  exact Ev.bind e3 (Ev.now _)
 | false =>
  obtain ⟨n, a3, s3, e3, n0, n1, d1, d2⟩ := pick_ev l hl a2 s2 9 (by omega) (by omega)
  obtain ⟨d, hd⟩ := Int.eq_ofNat_of_zero_le n0
  have hd' : n = (d : Int) := hd
  have hlen := hb.len
  obtain ⟨x, y, a', s', h, q1, q2, q3, q4⟩ := maj_l l hl b hb' d b a3 s3 (by omega) (by omega) (by omega) hb'
  refine ⟨x, y, a', s', ?_, q1, q2, by omega, by omega⟩
  unfold spec_l1Cur_majorized.f
  refine Ev.bind e1 ?_
  simp only [e2, Option.bind_some, Bool.false_eq_true, if_false, l1Own_eq b (by omega), e3]
  rw [hd']
  exact h
theorem drawBig_ev (l : List Int) (hl : Bytes l) : ∃ x y, Ev (fun k => spec_DrawBigGifts.f k l) (x, y) ∧ Bd 12 100 x ∧ Bd 12 100 y := by
 obtain ⟨x, y, a', s', e, h1, h2, _, _⟩ := majorized_ev l hl 25 (by omega) (by omega) 0 0 (by omega) (by omega)
 refine ⟨x, y, ?_, h1, h2⟩
 unfold spec_DrawBigGifts.f
 exact Ev.bind e (Ev.now _)
theorem implUnits_l (p q : List Int) (hl : p.length = q.length) (hp : Sm p) (hq : Sm q) : ∀ (n i : Nat) (s : Int), i + n = p.length → 0 ≤ s → s ≤ 1000 * i → Ev (fun k => impl_FewestUnits.l0 k s p q (p.length : Int) (i : Int)) (s + unitL (p.drop i) (q.drop i), true)
 | 0, i, s, h, h0, h1 => by
  refine Ev.succ ?_
  simp only [impl_FewestUnits.l0, if_neg (show ¬ (i : Int) < (p.length : Int) by omega)]
  rw [unitL_end (by omega), Int.add_zero]
  exact Ev.now _
 | n + 1, i, s, h, h0, h1 => by
  have hi : i < p.length := by omega
  have hj : i < q.length := by omega
  have b1 := hp.2 _ (List.getElem_mem hi)
  have b2 := hq.2 _ (List.getElem_mem hj)
  have hm := hp.1
  refine Ev.succ ?_
  simp only [impl_FewestUnits.l0, if_pos (show (i : Int) < (p.length : Int) by omega), if_pos (show (i : Int) < (q.length : Int) by omega), if_pos (show (0 : Int) ≤ (i : Int) by omega), rdn hi, rdn hj, wsucc hi (by omega), mx_eq, w64 (x := p[i] - q[i]) (by omega) (by omega), w64 (x := s + max 0 (p[i] - q[i])) (by omega) (by omega)]
  have ih := implUnits_l p q hl hp hq n (i + 1) (s + max 0 (p[i] - q[i])) (by omega) (by omega) (by omega)
  rw [unitL_drop hi hj, ← Int.add_assoc]
  exact ih
def unitsR (a b : List Int) : Int × Bool := if betB a b = true then (unitL (descL b) (descL a), true) else (0, false)
theorem implFewestUnits_ev (a b : List Int) (ha : a.length ≤ 1048576) (hb : b.length ≤ 1048576) : Ev (fun k => impl_FewestUnits.f k a b) (unitsR a b) := by
 unfold impl_FewestUnits.f unitsR
 refine Ev.bind (isBetween_ev a b ha hb) (Ev.ite (fun h => ?_) (fun _ => Ev.now _))
 obtain ⟨ga, gb, hm⟩ := (betB_iff a b).1 h
 simp only [ranking_eq (good_sm ga), ranking_eq (good_sm gb), Option.bind_some]
 have hl := ((majB_iff a b).1 hm).1
 have := implUnits_l (descL b) (descL a) (by rw [descL_length, descL_length]; omega) (sm_desc (good_sm gb)) (sm_desc (good_sm ga)) (descL b).length 0 0 (by omega) (by omega) (by omega)
 simpa using this
















theorem big_eq (a b : List Int) (ha : a.length ≤ 140737488355328) : laws_big.f a b = some (decide ((a.length : Int) > 1048576 ∨ (b.length : Int) > 1048576 - (a.length : Int))) := by
 unfold laws_big.f
 rw [w64 (x := 1048576 - (a.length : Int)) (by omega) (by omega)]
 by_cases h : (a.length : Int) > 1048576
 · simp [h]
 · simp only [if_neg h]
   congr 1
   by_cases h2 : (b.length : Int) > 1048576 - (a.length : Int)
   · rw [zaz h2, zaz (.inr h2)]
   · rw [decide_eq_false h2, decide_eq_false (by omega)]
theorem bytes_of {l : List Int} (h : l.length ≤ 1048576) (hx : ∀ x ∈ l, (Lit.int .u8 x).wf = true) : Bytes l := by
 refine ⟨h, fun x hm => ?_⟩
 have := hx x hm
 simp only [Lit.wf, Bool.and_eq_true, decide_eq_true_eq] at this
 exact ⟨this.1, this.2⟩
theorem big_cut (l0 l1 : List Int) (g0 : l0.length * 1 ≤ 140737488351232) (x0 : ∀ x ∈ l0, (Lit.int .u8 x).wf = true) (x1 : ∀ x ∈ l1, (Lit.int .u8 x).wf = true) : laws_big.f l0 l1 = some true ∨ laws_big.f l0 l1 = some false ∧ Bytes l0 ∧ Bytes l1 := by
 rw [big_eq l0 l1 (by omega)]
 by_cases hb : (l0.length : Int) > 1048576 ∨ (l1.length : Int) > 1048576 - (l0.length : Int)
 · rw [zaz hb]
   exact .inl rfl
 · rw [decide_eq_false hb]
   exact .inr ⟨rfl, bytes_of (by omega) x0, bytes_of (by omega) x1⟩
mutual
def impl_CompareLists.j0 : Nat → List Int → List Int → Bool → Option (ByteArray × Bool)
 | 0, _, _, _ => none
 | k + 1, x0, x1, x17 => if x17 = true then (some ((⟨#[]⟩ : ByteArray), false)) else ((impl_isMajorized.f k x0 x1).bind fun t841 => ((impl_isMajorized.f k x1 x0).bind fun t842 => (if t841 = true then (impl_CompareLists.j1 k t841 t842 t842) else (impl_CompareLists.j1 k t841 t842 false))))
def impl_CompareLists.j1 : Nat → Bool → Bool → Bool → Option (ByteArray × Bool)
 | 0, _, _, _ => none
 | k + 1, x6, x7, x24 => if x24 = true then (some ((⟨#[101, 113, 117, 97, 108]⟩ : ByteArray), true)) else (if x6 = true then (some ((⟨#[108, 101, 115, 115]⟩ : ByteArray), true)) else (if x7 = true then (some ((⟨#[103, 114, 101, 97, 116, 101, 114]⟩ : ByteArray), true)) else (some ((⟨#[97, 112, 97, 114, 116]⟩ : ByteArray), true))))
end


mutual
def impl_conjugate.l0 : Nat → Int → List Int → List Int → Int → Int → Option (List Int)
 | 0, _, _, _, _, _ => none
 | k + 1, x1, x5, x11, x12, x13 => if x13 < x12 then (if 0 ≤ x13 then (if x13 < (x11.length : Int) then (impl_conjugate.l1 k x1 x5 x11 x12 x13 (mn (rd x11 x13) x1) 0) else (none)) else (none)) else (some x5)
def impl_conjugate.l1 : Nat → Int → List Int → List Int → Int → Int → Int → Int → Option (List Int)
 | 0, _, _, _, _, _, _, _ => none
 | k + 1, x1, x5, x11, x12, x13, x19, x20 => if x20 < x19 then (if 0 ≤ x20 then (if x20 < (x5.length : Int) then (impl_conjugate.l1 k x1 (x5.set (x20 : Int).toNat (wrap64 ((rd x5 x20) + 1))) x11 x12 x13 x19 (wrap64 (x20 + 1))) else (none)) else (none)) else (impl_conjugate.l0 k x1 x5 x11 x12 (wrap64 (x13 + 1)))
end
mutual
def spec_liConjugate.l0 : Nat → Int → List Int → List Int → Int → Int → Option (List Int)
 | 0, _, _, _, _, _ => none
 | k + 1, x1, x5, x11, x12, x13 => if x13 < x12 then (if 0 ≤ x13 then (if x13 < (x11.length : Int) then (spec_liConjugate.l1 k x1 x5 (rd x11 x13) 0 x11 x12 x13) else (none)) else (none)) else (some x5)
def spec_liConjugate.l1 : Nat → Int → List Int → Int → Int → List Int → Int → Int → Option (List Int)
 | 0, _, _, _, _, _, _, _ => none
 | k + 1, x1, x5, x7, x8, x11, x12, x13 => if x8 < x7 then (if x8 < x1 then (if 0 ≤ x8 then (if x8 < (x5.length : Int) then (spec_liConjugate.l1 k x1 (x5.set (x8 : Int).toNat (wrap64 ((rd x5 x8) + 1))) x7 (wrap64 (x8 + 1)) x11 x12 x13) else (none)) else (none)) else (spec_liConjugate.l0 k x1 x5 x11 x12 (wrap64 (x13 + 1)))) else (spec_liConjugate.l0 k x1 x5 x11 x12 (wrap64 (x13 + 1)))
end


def spec_liFrom.l0 : Nat → List Int → Int → List Int → Int → Int → Option (List Int)
 | 0, _, _, _, _, _ => none
 | k + 1, x3, x4, x7, x8, x9 => if x9 < x8 then (if 0 ≤ x9 then (if x9 < (x7.length : Int) then (if x3.length < 17592186044416 then (spec_liFrom.l0 k (x3 ++ [wrap64 ((rd x7 x9) - x4)]) (rd x7 x9) x7 x8 (wrap64 (x9 + 1))) else (none)) else (none)) else (none)) else (some x3)
def spec_liFrom.f (k : Nat) (l0 : List Int) : Option (List Int) := spec_liFrom.l0 k ([] : List Int) 0 l0 (l0.length : Int) 0

mutual
def spec_MeetOf.j0 : Nat → List Int → List Int → Bool → Option (List Int × Bool)
 | 0, _, _, _ => none
 | k + 1, x0, x1, x23 => if x23 = true then (some (([] : List Int), false)) else ((spec_liPartial.f k x0).bind fun t1011 => ((spec_liPartial.f k x1).bind fun t1014 => (spec_MeetOf.l0 k t1011 t1014 ([] : List Int) (t1011.length : Int) 0)))
def spec_MeetOf.l0 : Nat → List Int → List Int → List Int → Int → Int → Option (List Int × Bool)
 | 0, _, _, _, _, _ => none
 | k + 1, x6, x7, x8, x29, x30 => if x30 < x29 then (if 0 ≤ x30 then (if x30 < (x6.length : Int) then (if x30 < (x7.length : Int) then ((spec_l1Least.f (rd x6 x30) (rd x7 x30)).bind fun t1019 => (if x8.length < 17592186044416 then (spec_MeetOf.l0 k x6 x7 (x8 ++ [t1019]) x29 (wrap64 (x30 + 1))) else (none))) else (none)) else (none)) else (none)) else ((spec_liFrom.f k x8).bind fun t1023 => (some (t1023, true)))
end





mutual
def impl_MixOf.j0 : Nat → List Int → List Int → Bool → Option (List Int × Bool)
 | 0, _, _, _ => none
 | k + 1, x0, x1, x20 => if x20 = true then (some (([] : List Int), false)) else ((impl_ranking.f x0).bind fun t647 => ((impl_ranking.f x1).bind fun t650 => (impl_MixOf.l0 k t647 t650 (t650.length : Int) 0)))
def impl_MixOf.l0 : Nat → List Int → List Int → Int → Int → Option (List Int × Bool)
 | 0, _, _, _, _ => none
 | k + 1, x6, x25, x26, x27 => if x27 < x26 then (if 0 ≤ x27 then (if x27 < (x25.length : Int) then (if x27 < (x6.length : Int) then (impl_MixOf.l0 k (x6.set (x27 : Int).toNat (wrap64 ((rd x6 x27) + (rd x25 x27)))) x25 x26 (wrap64 (x27 + 1))) else (none)) else (none)) else (none)) else ((impl_IsList.f k x6).bind fun t656 => (if t656 = true then (some (x6, true)) else (some (([] : List Int), false))))
end
def spec_liIf.f (k : Nat) (l0 : List Int) : Option (List Int × Bool) := (spec_liGood.f k l0).bind fun t544 => (if t544 = true then (some (l0, true)) else (some (([] : List Int), false)))
mutual
def spec_MixOf.j0 : Nat → List Int → List Int → Bool → Option (List Int × Bool)
 | 0, _, _, _ => none
 | k + 1, x0, x1, x24 => if x24 = true then (some (([] : List Int), false)) else ((spec_liRank.f k x0).bind fun t701 => ((spec_liRank.f k x1).bind fun t704 => (spec_MixOf.l0 k t701 t704 ([] : List Int) (t701.length : Int) 0)))
def spec_MixOf.l0 : Nat → List Int → List Int → List Int → Int → Int → Option (List Int × Bool)
 | 0, _, _, _, _, _ => none
 | k + 1, x6, x7, x8, x30, x31 => if x31 < x30 then (if 0 ≤ x31 then (if x31 < (x6.length : Int) then (if x31 < (x7.length : Int) then (if x8.length < 17592186044416 then (spec_MixOf.l0 k x6 x7 (x8 ++ [wrap64 ((rd x6 x31) + (rd x7 x31))]) x30 (wrap64 (x31 + 1))) else (none)) else (none)) else (none)) else (none)) else ((spec_liIf.f k x8).bind fun bt712 => (some (bt712.1, bt712.2)))
end



theorem rd_c0 (x : Int) (l : List Int) : rd (x :: l) ((0 : Nat) : Int) = x := by simp [rd]
theorem rd_cs (x : Int) (l : List Int) (k : Nat) : rd (x :: l) ((k + 1 : Nat) : Int) = rd l (k : Int) := by
 unfold rd
 rw [show (((k + 1 : Nat) : Int)).toNat = k + 1 from by omega, show ((k : Int)).toNat = k from by omega, List.getD_cons_succ]
theorem unit_cons (x y : Int) (p q : List Int) : unitL (x :: p) (y :: q) = max 0 (x - y) + unitL p q := by simp [unitL]
theorem unit_diff : ∀ (p q : List Int), p.length = q.length → unitL p q - unitL q p = p.sum - q.sum
 | [], [], _ => by simp [unitL]
 | x :: p, y :: q, h => by
  have ih := unit_diff p q (by simpa using h)
  rw [unit_cons, unit_cons, List.sum_cons, List.sum_cons]
  omega
 | [], y :: q, h => by simp at h
 | x :: p, [], h => by simp at h
theorem unit_add : ∀ (p q : List Int), p.length = q.length → (∀ x ∈ p, 0 ≤ x ∧ x ≤ 60) → (∀ x ∈ q, 0 ≤ x ∧ x ≤ 60) → unitL p q + unitL q p ≤ 60 * p.length
 | [], [], _, _, _ => by simp [unitL]
 | x :: p, y :: q, h, hp, hq => by
  have ih := unit_add p q (by simpa using h) (fun z hz => hp z (List.mem_cons_of_mem _ hz)) (fun z hz => hq z (List.mem_cons_of_mem _ hz))
  have h1 := hp x List.mem_cons_self
  have h2 := hq y List.mem_cons_self
  rw [unit_cons, unit_cons, List.length_cons]
  omega
 | [], y :: q, h, _, _ => by simp at h
 | x :: p, [], h, _, _ => by simp at h
theorem unit_240 {p q : List Int} (hp : goodL p = true) (hq : goodL q = true) (hl : p.length = q.length) (hs : p.sum = q.sum) : unitL p q ≤ 240 := by
 have g1 := (goodL_iff p).1 hp
 have g2 := (goodL_iff q).1 hq
 have h1 := unit_diff p q hl
 have h2 := unit_add p q hl g1.2.2 g2.2.2
 omega
theorem unit_low : ∀ (x h : List Int), x.length = h.length → (∀ k : Nat, k < x.length → rd h (k : Int) ≤ rd x (k : Int)) → unitL x h = x.sum - h.sum
 | [], [], _, _ => by simp [unitL]
 | x :: p, y :: q, e, hk => by
  have ih := unit_low p q (by simpa using e) (fun k h => by
   have := hk (k + 1) (by simpa using h)
   rw [rd_cs, rd_cs] at this
   exact this)
  have h0 := hk 0 (by simp)
  rw [rd_c0, rd_c0] at h0
  rw [unit_cons, List.sum_cons, List.sum_cons, ih]
  omega
 | [], y :: q, h, _ => by simp at h
 | x :: p, [], h, _ => by simp at h
theorem count_less (p q : Nat → Bool) : ∀ n : Nat, (∀ k, k < n → p k = true → q k = true) → (List.range n).countP p ≤ (List.range n).countP q ∧ ((∃ k, k < n ∧ q k = true ∧ p k = false) → (List.range n).countP p + 1 ≤ (List.range n).countP q)
 | 0, _ => ⟨by simp, by rintro ⟨k, hk, _⟩; omega⟩
 | n + 1, h => by
  obtain ⟨h1, h2⟩ := count_less p q n (fun k hk => h k (by omega))
  have hn := h n (by omega)
  rw [List.range_succ, List.countP_append, List.countP_append]
  have e : ∀ r : Nat → Bool, [n].countP r = if r n = true then 1 else 0 := fun r => by
   rw [List.countP_cons, List.countP_nil]
   omega
  rw [e p, e q]
  refine ⟨?_, ?_⟩
  · by_cases c : p n = true
    · rw [if_pos c, if_pos (hn c)]
      omega
    · rw [if_neg c]
      omega
  · rintro ⟨k, hk, hq, hp⟩
    by_cases e : k = n
    · subst e
      rw [hq, hp, if_pos rfl, if_neg (by decide)]
      omega
    · have := h2 ⟨k, by omega, hq, hp⟩
      by_cases c : p n = true
      · rw [if_pos c, if_pos (hn c)]
        omega
      · rw [if_neg c]
        omega
def neqN (x t : List Int) : Nat := (List.range x.length).countP fun (k : Nat) => decide (rd x (k : Int) ≠ rd t (k : Int))
theorem neqN_le (x t : List Int) : neqN x t ≤ x.length := by
 have h := List.countP_le_length (p := fun (k : Nat) => decide (rd x (k : Int) ≠ rd t (k : Int))) (l := List.range x.length)
 rw [List.length_range] at h
 exact h
theorem gv_kind {x t : List Int} {i j : Nat} {a : Int} (hl : x.length = t.length) (hx : goodL x = true) (ht : Desc t) (g : Gv x t i j a) : kindB x (i : Int) (j : Int) a = true := by
 have h1 := g.lt
 have h2 := g.hj
 have h3 := g.ai
 have h4 := g.aj
 have h5 := g.pos
 have d := desc_rd ht (a := i) (b := j) (by omega) (by omega)
 have b1 := rd_good hx (i := (i : Int)) (by omega) (by omega)
 have b2 := rd_good hx (i := (j : Int)) (by omega) (by omega)
 exact (kindB_iff _ _ _ _).2 ⟨(isG_iff _ _ _ _).2 ⟨by omega, by omega, by omega, h5⟩, by omega, by omega⟩
theorem gp_nil {u : Bool} {t : List Int} {L : List (Nat × Nat × Int)} (h : GP u t t L) : L = [] := by
 cases h with
 | nil => rfl
 | cons hne _ _ => exact absurd rfl hne
def movedL (L : List (Nat × Nat × Int)) : Int := (L.map fun g => g.2.2).sum
theorem gp_moved {u : Bool} {t : List Int} {x : List Int} {L : List (Nat × Nat × Int)} (h : GP u t x L) (hl : x.length = t.length) : movedL L = unitL x t := by
 induction h with
 | nil =>
  have := unit_diff t t rfl
  have h0 := unit_low t t rfl (fun _ _ => Int.le_refl _)
  simp [movedL]
  omega
 | @cons x i j L hne hn h ih =>
  have g := nx_gv u hn
  have e := gv_unit hl g
  have := ih (by rw [giveL_length]; exact hl)
  simp only [movedL, zau, List.sum_cons] at this ⊢
  omega
theorem gp_few {t : List Int} {x : List Int} {L : List (Nat × Nat × Int)} (h : GP false t x L) (hl : x.length = t.length) (hne : x ≠ t) : L.length + 1 ≤ neqN x t := by
 induction h with
 | nil => exact absurd rfl hne
 | @cons x i j L _ hn h ih =>
  have g := nx_gv false hn
  have h1 := g.lt
  have h2 := g.hj
  have h3 := hn.igt
  have h4 := hn.jlt
  have hlen := giveL_length x (i : Int) (j : Int) (gvA false x t i j)
  have hr := fun k => giveL_rd x i j (gvA false x t i j) (by omega) h2 (by omega) k
  have ha : gvA false x t i j = min (rd x (i : Int) - rd t (i : Int)) (rd t (j : Int) - rd x (j : Int)) := by
   unfold gvA
   rw [if_neg (by decide)]
  have hlow : ∀ k, k < x.length → decide (rd (giveL x (i : Int) (j : Int) (gvA false x t i j)) (k : Int) ≠ rd t (k : Int)) = true → decide (rd x (k : Int) ≠ rd t (k : Int)) = true := fun k hk hp => by
   rw [decide_eq_true_eq] at hp ⊢
   rw [hr k] at hp
   by_cases c1 : k = j
   · rw [c1]; omega
   · by_cases c2 : k = i
     · rw [c2]; omega
     · rw [if_neg c1, if_neg c2] at hp
       exact hp
  by_cases e : giveL x (i : Int) (j : Int) (gvA false x t i j) = t
  · have hL : L = [] := by
     rw [e] at h
     exact gp_nil h
    subst hL
    have k1 := (count_less (fun _ => false) (fun (k : Nat) => decide (k = i)) x.length (fun _ _ h => by cases h)).2 ⟨i, by omega, by simp, rfl⟩
    have k2 := (count_less (fun (k : Nat) => decide (k = i)) (fun (k : Nat) => decide (rd x (k : Int) ≠ rd t (k : Int))) x.length (fun k _ h => by
     rw [decide_eq_true_eq] at h ⊢
     rw [h]
     omega)).2 ⟨j, h2, by rw [decide_eq_true_eq]; omega, by rw [decide_eq_false_iff_not]; omega⟩
    unfold neqN
    simp only [List.length_cons, List.length_nil]
    omega
  · have := ih (by rw [hlen]; exact hl) e
    have k := (count_less _ _ x.length hlow).2 (by
     by_cases c : rd x (i : Int) - rd t (i : Int) ≤ rd t (j : Int) - rd x (j : Int)
     · refine ⟨i, by omega, by rw [decide_eq_true_eq]; omega, ?_⟩
       rw [decide_eq_false_iff_not, hr i, if_neg (by omega), if_pos rfl, ha]
       omega
     · refine ⟨j, h2, by rw [decide_eq_true_eq]; omega, ?_⟩
       rw [decide_eq_false_iff_not, hr j, if_pos rfl, ha]
       omega)
    unfold neqN at this ⊢
    rw [hlen] at this
    rw [List.length_cons]
    omega
theorem foll_cons (x : List Int) (g : S39) (p : List S39) : foll x (g :: p) = if kindB x g.f0 g.f1 g.f2 = true then (foll (stepG x g) p).map (stepG x g :: ·) else none := rfl
theorem stepG_length (x : List Int) (g : S39) : (stepG x g).length = x.length := by
 unfold stepG
 rw [descL_length, giveL_length]
theorem isG_len {x y : List Int} (h : x.length = y.length) (f t a : Int) : isG x f t a = isG y f t a := by
 unfold isG
 rw [h]
theorem foll_isG : ∀ (p : List S39) (x : List Int) (M : List (List Int)), foll x p = some M → ∀ g ∈ p, isG x g.f0 g.f1 g.f2 = true
 | [], _, _, _, g, hg => by simp at hg
 | g :: p, x, M, h, q, hq => by
  rw [foll_cons] at h
  by_cases c : kindB x g.f0 g.f1 g.f2 = true
  · rw [if_pos c] at h
    obtain ⟨N, h1, _⟩ := Option.map_eq_some_iff.1 h
    rcases List.mem_cons.1 hq with rfl | hq
    · exact ((kindB_iff _ _ _ _).1 c).1
    · rw [isG_len (stepG_length x g).symm]
      exact foll_isG p (stepG x g) N h1 q hq
  · rw [if_neg c] at h
    cases h
theorem lastR_cons (x y : List Int) (M : List (List Int)) : lastR (x :: y :: M) = lastR (y :: M) := by
 unfold lastR
 simp
theorem foll_gp {u : Bool} {t x : List Int} {L : List (Nat × Nat × Int)} (h : GP u t x L) (ht : Desc t) (htg : goodL t = true) : Dom x t → Desc x → goodL x = true → ∃ M, foll x (toG L) = some M ∧ lastR (x :: M) = t := by
 induction h with
 | nil => exact fun _ _ _ => ⟨[], rfl, rfl⟩
 | @cons x i j L hne hn h ih =>
  intro hd hx hg
  have g := nx_gv u hn
  have hk := gv_kind hd.1 hg ht g
  have hs : stepG x ⟨(i : Int), (j : Int), gvA u x t i j⟩ = giveL x (i : Int) (j : Int) (gvA u x t i j) := descL_of_desc (gv_desc hd.1 hx ht g)
  obtain ⟨M, h1, h2⟩ := ih (gv_dom hd g) (gv_desc hd.1 hx ht g) (gv_good hd.1 hg htg g)
  refine ⟨giveL x (i : Int) (j : Int) (gvA u x t i j) :: M, ?_, by rw [lastR_cons]; exact h2⟩
  show foll x (⟨(i : Int), (j : Int), gvA u x t i j⟩ :: toG L) = _
  rw [foll_cons, if_pos hk, hs, h1]
  rfl
theorem igp_eq (a b : List Int) (p : List S39) (ha : a.length ≤ 1048576) (hb : b.length ≤ 1048576) (hp : p.length ≤ 1048576) : impl_IsGiftPath.f a b p = some (igpR a b p) := by
 unfold impl_IsGiftPath.f
 rw [if_pos ⟨ha, hb, hp⟩]
theorem any_not_all (b : List Int) (p : List S39) : (p.any fun g => !isG b g.f0 g.f1 g.f2) = !(p.all fun g => isG b g.f0 g.f1 g.f2) := by
 rw [List.not_all_eq_any_not]
theorem pGifts_self (p : List S39) (hp : p.length ≤ 1048576) : Ev (fun k => laws_pGifts.f k p p) true := by
 unfold laws_pGifts.f
 simp only [if_true]
 have key : ∀ (d i : Nat), i + d = p.length → Ev (fun k => laws_pGifts.l0 k p p (p.length : Int) (i : Int)) true := by
  intro d
  induction d with
  | zero =>
   intro i h
   refine Ev.succ ?_
   simp only [laws_pGifts.l0, if_neg (show ¬ (i : Int) < (p.length : Int) by omega)]
   exact Ev.now _
  | succ d ih =>
   intro i h
   have hi : i < p.length := by omega
   refine Ev.succ ?_
   simp only [laws_pGifts.l0, if_pos (show (i : Int) < (p.length : Int) by omega), if_pos (show (0 : Int) ≤ (i : Int) by omega), beq_self_eq_true, Bool.not_true, Bool.or_false, Bool.false_eq_true, if_false, wsucc hi (by omega)]
   exact ih (i + 1) (by omega)
 exact key p.length 0 (by omega)
end Go.Proofs.Ytnlimjejllakoaa.A
/- The law FnBigGiftsAreFew holds of the printed functions, for every argument: numbers and lists alone. -/
namespace Go.Proofs.Ytnlimjejllakoaa.Pure
open Go.RowKit Go.Proofs.Ytnlimjejllakoaa.A Go.Proofs.YtnlimjejllakoaaW.PrintWords Go.Proofs.YtnlimjejllakoaaW.PrintLast
set_option linter.unusedVariables false
set_option linter.unusedSimpArgs false
def sumF (p : List S39) : Int := (p.map fun g => g.f2).sum
theorem sumF_to (L : List (Nat × Nat × Int)) : sumF (toG L) = movedL L := by
 unfold sumF toG movedL
 rw [List.map_map]
 rfl
theorem big_sum (a : List Int) (p : List S39) (U : Int) (hp : p.length ≤ 1000) (ha : a.length ≤ 1000) (h1 : ∀ g ∈ p, 1 ≤ g.f2) (hU : U ≤ 480) : ∀ (d i : Nat) (s : Int), i + d = p.length → 0 ≤ s → s + sumF (p.drop i) = U → Ev (fun k => laws_FnBigGiftsAreFew.l0 k a p U true true true s p (p.length : Int) (i : Int)) (decide ((p.length : Int) < (a.length : Int))) := by
 intro d
 induction d with
 | zero =>
  intro i s h h0 hs
  refine Ev.succ ?_
  simp only [laws_FnBigGiftsAreFew.l0, if_neg (show ¬ (i : Int) < (p.length : Int) by omega)]
  rw [List.drop_eq_nil_of_le (by omega)] at hs
  have e : s = U := by simpa [sumF] using hs
  simp only [if_true, if_pos e]
  exact Ev.now _
 | succ d ih =>
  intro i s h h0 hs
  have hi : i < p.length := by omega
  have hr : rd_T39 p (i : Int) = p[i] := by
   unfold rd_T39
   rw [Int.toNat_natCast, List.getD_eq_getElem?_getD, List.getElem?_eq_getElem hi]
   rfl
  have g1 := h1 _ (List.getElem_mem hi)
  have hn : 0 ≤ sumF (p.drop (i + 1)) := sum_nn _ (fun x hx => by
   obtain ⟨g, hg, rfl⟩ := List.mem_map.1 hx
   have := h1 g (List.mem_of_mem_drop hg)
   omega)
  rw [List.drop_eq_getElem_cons hi] at hs
  have hs' : s + (p[i].f2 + sumF (p.drop (i + 1))) = U := hs
  refine Ev.succ ?_
  simp only [laws_FnBigGiftsAreFew.l0, if_pos (show (i : Int) < (p.length : Int) by omega), if_pos (show (0 : Int) ≤ (i : Int) by omega), hr, w64 (x := s + p[i].f2) (by omega) (by omega), wsucc hi (by omega)]
  exact ih (i + 1) _ (by omega) (by omega) (by omega)
theorem igp_path (u : Bool) {a b : List Int} (h : betB a b = true) : igpR a b (pathL u a b) = (true, true) ∧ (pathL u a b).length ≤ 240 ∧ ∀ g ∈ pathL u a b, 1 ≤ g.f2 := by
 obtain ⟨ga, gb, hm⟩ := (betB_iff a b).1 h
 have hd := (majB_dom a b).1 hm
 have ga' : goodL (descL a) = true := by rw [good_desc]; exact ga
 have gb' : goodL (descL b) = true := by rw [good_desc]; exact gb
 obtain ⟨hG, hlen⟩ := gpL_spec u hd (descL_desc b) (descL_desc a) gb' ga'
 have hbd := unit_240 gb' ga' hd.1 hd.2.1
 obtain ⟨M, h1, h2⟩ := foll_gp hG (descL_desc a) ga' hd (descL_desc b) gb'
 have hl : (pathL u a b).length ≤ 240 := by
  unfold pathL
  rw [toG_length]
  omega
 have hi := foll_isG _ _ _ h1
 have hf : fitB a b = true := by
  have := (majB_iff a b).1 hm
  exact (fitB_iff a b).2 ⟨this.1, this.2.1⟩
 refine ⟨?_, hl, fun g hg => ((isG_iff _ _ _ _).1 (hi g hg)).2.2.2⟩
 unfold igpR
 rw [if_pos ga, gb, if_pos rfl, if_pos hf, if_neg (by omega)]
 have hn : ((pathL u a b).any fun g => !isG b g.f0 g.f1 g.f2) = false := by
  rw [any_not_all, Bool.not_eq_false', List.all_eq_true]
  intro g hg
  rw [← isG_len (descL_length b)]
  exact hi g hg
 rw [hn, if_neg (by decide)]
 unfold igpM
 have h1' : foll (descL b) (pathL u a b) = some M := h1
 rw [h1']
 simp only [h2, decide_true]
theorem FnBigGiftsAreFew : laws_FnBigGiftsAreFew.Pure := by
 intro l0 l1 _ g0 x0 _ g1 x1
 apply Ev.get
 unfold laws_FnBigGiftsAreFew.f
 rcases big_cut l0 l1 g0 x0 x1 with hb | ⟨hb, b0, b1⟩
 · simp only [hb, Option.bind_some, if_true]
   exact Ev.now _
 · simp only [hb, Option.bind_some, Bool.false_eq_true, if_false]
   obtain ⟨a, b, e, ha, hb⟩ := drawBig_ev l0 b0
   have la := ha.len
   have lb := hb.len
   have hlen := bigR_len a b (by omega) (by omega)
   refine Ev.bind e (Ev.bind (implBigGifts_ev a b (by omega) (by omega)) (Ev.bind (specBigGifts_ev a b (by omega) (by omega)) ?_))
   simp only [bne_self_eq_false, Bool.false_eq_true, if_false]
   refine Ev.bind (pGifts_self _ hlen) ?_
   refine Ev.succ ?_
   simp only [laws_FnBigGiftsAreFew.j0, Bool.not_true, Bool.false_eq_true, if_false]
   by_cases h : betB a b = true
   · have hR : bigR a b = (pathL false a b, true) := by
      unfold bigR
      rw [if_pos h]
     have hU : unitsR a b = (unitL (descL b) (descL a), true) := by
      unfold unitsR
      rw [if_pos h]
     obtain ⟨hi, hl, h1⟩ := igp_path false h
     rw [hR]
     simp only [if_true]
     refine Ev.bind (implFewestUnits_ev a b (by omega) (by omega)) ?_
     rw [hU]
     simp only [igp_eq a b _ (show a.length ≤ 1048576 by omega) (show b.length ≤ 1048576 by omega) (show (pathL false a b).length ≤ 1048576 by omega), Option.bind_some, hi]
     obtain ⟨ga, gb, hm⟩ := (betB_iff a b).1 h
     have hd := (majB_dom a b).1 hm
     have ga' : goodL (descL a) = true := by rw [good_desc]; exact ga
     have gb' : goodL (descL b) = true := by rw [good_desc]; exact gb
     obtain ⟨hG, _⟩ := gpL_spec false hd (descL_desc b) (descL_desc a) gb' ga'
     have hbd := unit_240 gb' ga' hd.1 hd.2.1
     have hs : sumF (pathL false a b) = unitL (descL b) (descL a) := by
      unfold pathL
      rw [sumF_to]
      exact gp_moved hG hd.1
     have key := big_sum a (pathL false a b) (unitL (descL b) (descL a)) (by omega) (by omega) h1 (by omega) (pathL false a b).length 0 0 (by omega) (by omega) (by rw [List.drop_zero, hs]; omega)
     have hla : (descL a).length = a.length := descL_length a
     have hlb : (descL b).length = b.length := descL_length b
     have hab := hd.1
     have g1 := ((goodL_iff a).1 ga).1
     have hlt : (pathL false a b).length < a.length := by
      unfold pathL
      rw [toG_length]
      by_cases c : descL b = descL a
      · rw [c] at hG ⊢
        rw [gp_nil hG]
        simp only [List.length_nil]
        omega
      · have k1 := gp_few hG hd.1 c
        have k2 := neqN_le (descL b) (descL a)
        omega
     rw [zaz (show ((pathL false a b).length : Int) < (a.length : Int) by omega)] at key
     exact key
   · have hR : bigR a b = ([], false) := by
      unfold bigR
      rw [if_neg h]
     rw [hR]
     simp only [Bool.false_eq_true, if_false]
     exact Ev.now _
end Go.Proofs.Ytnlimjejllakoaa.Pure

